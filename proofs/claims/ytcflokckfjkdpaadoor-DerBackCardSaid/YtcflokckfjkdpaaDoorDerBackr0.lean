/- DerBack: what is used, in one text. -/
import Derived.Shelf.Strconv.Itoa3
import Derived.Test.YtcflokckfjkdpaaDoorProg
import Derived.Laws.BitsAllLaws
import Derived.Lib.ItoaNum
import Derived.Laws.Strings
import Derived.Test.YtcflokckfjkdpaaDoorRows
import Derived.ProofKit
import Derived.LaidMore
import Derived.OpenShut
import Derived.Carry
import Derived.ChangeMaps5
import Derived.ChangeCalls
import Derived.Stop.Joined
import Derived.Lib.LaidTab
import Derived.Lay
import Derived.Laws.RangeString
import Derived.Test.YtcflokckfjkdpaaDoorDerBackc0
set_option linter.unusedVariables false
set_option linter.unusedSimpArgs false
section
namespace Go.Proofs.YtcflokckfjkdpaaDoor
open Go.Shelf Go.Proofs
def laysM171_ren : Go.Shelf.Ren := ⟨fun | 171 => 47 | 243 => 67 | 246 => 78 | 283 => 90 | 284 => 91 | 285 => 92 | 286 => 93 | 129 => 106 | 317 => 105 | 318 => 107 | 319 => 108 | 320 => 109 | 337 => 118 | 338 => 119 | n => n, fun | 3 => 3 | 9 => 9 | 2 => 2 | 4 => 4 | 171 => 141 | 0 => 0 | 53 => 84 | 37 => 22 | 5 => 5 | 173 => 144 | 212 => 168 | 51 => 30 | 20 => 20 | 213 => 169 | 46 => 85 | 232 => 209 | 233 => 210 | n => n, fun | 17 => 0 | 18 => 5 | 19 => 6 | n => n⟩
theorem laysM171 : Go.Proofs.LaysM.n171 Tryd.prog laysM171_ren := {
  mixed := by kernel_rfl
  f129 := Tryd.func106.trans (congrArg some (by kernel_rfl))
  f171 := Tryd.func47.trans (congrArg some (by kernel_rfl))
  f243 := Tryd.func67.trans (congrArg some (by kernel_rfl))
  f246 := Tryd.func78.trans (congrArg some (by kernel_rfl))
  f283 := Tryd.func90.trans (congrArg some (by kernel_rfl))
  f284 := Tryd.func91.trans (congrArg some (by kernel_rfl))
  f285 := Tryd.func92.trans (congrArg some (by kernel_rfl))
  f286 := Tryd.func93.trans (congrArg some (by kernel_rfl))
  f317 := Tryd.func105.trans (congrArg some (by kernel_rfl))
  f318 := Tryd.func107.trans (congrArg some (by kernel_rfl))
  f319 := Tryd.func108.trans (congrArg some (by kernel_rfl))
  f320 := Tryd.func109.trans (congrArg some (by kernel_rfl))
  f337 := Tryd.func118.trans (congrArg some (by kernel_rfl))
  f338 := Tryd.func119.trans (congrArg some (by kernel_rfl))
  t0 := Tryd.underlying0
  a0 := Tryd.isAgg0
  z0 := Tryd.sizeOf0
  v0 := Tryd.zeroValue0
  t2 := Tryd.underlying2
  a2 := Tryd.isAgg2
  z2 := Tryd.sizeOf2
  v2 := Tryd.zeroValue2
  t3 := Tryd.underlying3
  a3 := Tryd.isAgg3
  z3 := Tryd.sizeOf3
  v3 := Tryd.zeroValue3
  t4 := Tryd.underlying4
  a4 := Tryd.isAgg4
  z4 := Tryd.sizeOf4
  v4 := Tryd.zeroValue4
  t5 := Tryd.underlying5
  a5 := Tryd.isAgg5
  z5 := Tryd.sizeOf5
  v5 := Tryd.zeroValue5
  t9 := Tryd.underlying9
  a9 := Tryd.isAgg9
  z9 := Tryd.sizeOf9
  v9 := Tryd.zeroValue9
  t20 := Tryd.underlying20
  a20 := Tryd.isAgg20
  z20 := Tryd.sizeOf20
  v20 := Tryd.zeroValue20
  t37 := Tryd.underlying22
  a37 := Tryd.isAgg22
  z37 := Tryd.sizeOf22
  v37 := Tryd.zeroValue22
  t46 := Tryd.underlying85
  a46 := Tryd.isAgg85
  z46 := Tryd.sizeOf85
  v46 := Tryd.zeroValue85
  t51 := Tryd.underlying30
  a51 := Tryd.isAgg30
  z51 := Tryd.sizeOf30
  v51 := Tryd.zeroValue30
  t53 := Tryd.underlying84
  a53 := Tryd.isAgg84
  z53 := Tryd.sizeOf84
  v53 := Tryd.zeroValue84
  t171 := Tryd.underlying141
  a171 := Tryd.isAgg141
  z171 := Tryd.sizeOf141
  v171 := Tryd.zeroValue141
  t173 := Tryd.underlying144
  a173 := Tryd.isAgg144
  z173 := Tryd.sizeOf144
  v173 := Tryd.zeroValue144
  t212 := Tryd.underlying168
  a212 := Tryd.isAgg168
  z212 := Tryd.sizeOf168
  v212 := Tryd.zeroValue168
  t213 := Tryd.underlying169
  a213 := Tryd.isAgg169
  z213 := Tryd.sizeOf169
  t232 := Tryd.underlying209
  a232 := Tryd.isAgg209
  z232 := Tryd.sizeOf209
  v232 := Tryd.zeroValue209
  t233 := Tryd.underlying210
  a233 := Tryd.isAgg210
  z233 := Tryd.sizeOf210
  v233 := Tryd.zeroValue210
  g17 := by kernel_rfl
  g18 := by kernel_rfl
  g19 := by kernel_rfl
  i0 := by kernel_rfl
  i2 := by kernel_rfl
  i3 := by kernel_rfl
  i4 := by kernel_rfl
  i5 := by kernel_rfl
  i9 := by kernel_rfl
  i20 := by kernel_rfl
  i37 := by kernel_rfl
  i46 := by kernel_rfl
  i51 := by kernel_rfl
  i53 := by kernel_rfl
  i171 := by kernel_rfl
  i173 := by kernel_rfl
  i212 := by kernel_rfl
  i232 := by kernel_rfl
  i233 := by kernel_rfl
  m17 := by kernel_rfl
  m18 := by kernel_rfl
  m19 := by kernel_rfl }
open Go.RowKit Go.Sort Go.Lib in
theorem strconv_Itoa (n : Int) (h0 : -9223372036854775808 ≤ n) (h1 : n ≤ 9223372036854775807) (w : World) (htab : Lib.TabIs Tryd.prog w "internal/strconv.uint64pow10" .u64 Lib.pow10Tab) :
    Calls Tryd.prog 47 #[.int .i64 n] w fun e w' => e = .returned (.string ⟨(Lib.itoa n).toArray⟩) ∧ ∃ k os, w' = grow (w.drewN k) os := Any.strconv_Itoa laysM171 n h0 h1 w htab
end Go.Proofs.YtcflokckfjkdpaaDoor
end
section
set_option linter.unusedVariables false
namespace Go.Proofs.YtcflokckfjkdpaaDoor.Eng
open Go Go.RowKit
theorem nat_or_add (a b n : Nat) (h : b < 2 ^ n) : (a * 2 ^ n) ||| b = a * 2 ^ n + b := by
  have := Nat.shiftLeft_add_eq_or_of_lt h a
  rw [Nat.shiftLeft_eq] at this
  exact this.symm
theorem or32_add {c z : Int} {n : Nat} (hc : 0 ≤ c) (hc' : c < 2 ^ n) (hz : 0 ≤ z) (hl : z * 2 ^ n + c < 4294967296) : bits .or .u32 c (z * 2 ^ n) = z * 2 ^ n + c := by
  have hz2 : 0 ≤ z * 2 ^ n := Int.mul_nonneg hz (by have : (0 : Int) < 2 ^ n := Int.pow_pos (by decide); omega)
  rw [u32_or _ _ (by omega) (by omega) (by omega) (by omega), Nat.or_comm]
  obtain ⟨z, rfl⟩ := Int.eq_ofNat_of_zero_le hz
  obtain ⟨c, rfl⟩ := Int.eq_ofNat_of_zero_le hc
  have e : ((z : Int) * 2 ^ n) = ((z * 2 ^ n : Nat) : Int) := by push_cast; rfl
  have hc2 : c < 2 ^ n := by
    have h2 : ((2 ^ n : Nat) : Int) = (2 : Int) ^ n := by push_cast; rfl
    omega
  rw [e, Int.toNat_natCast, Int.toNat_natCast, nat_or_add _ _ _ hc2]
  push_cast; rfl
end Go.Proofs.YtcflokckfjkdpaaDoor.Eng
end
section
set_option linter.unusedVariables false
namespace Go.Proofs.YtcflokckfjkdpaaDoor.Eng
open Go Go.RowKit
theorem and_127 : ∀ a : Nat, a < 256 → bits .and .u8 (a : Int) 127 = (a : Int) % 128 := by decide +kernel
theorem and_31 : ∀ a : Nat, a < 256 → bits .and .u8 (a : Int) 31 = (a : Int) % 32 := by decide +kernel
theorem and_32 : ∀ a : Nat, a < 256 → bits .and .u8 (a : Int) 32 = (a : Int) / 32 % 2 * 32 := by decide +kernel
theorem and_128 : ∀ a : Nat, a < 256 → bits .and .u8 (a : Int) 128 = (a : Int) / 128 * 128 := by decide +kernel
theorem or_128 : ∀ a : Nat, a < 256 → bits .or .u8 (a : Int) 128 = (a : Int) % 128 + 128 := by decide +kernel
theorem or_128' : ∀ a : Nat, a < 256 → bits .or .u8 128 (a : Int) = (a : Int) % 128 + 128 := by decide +kernel
theorem d8_and127 {a : Int} (h : 0 ≤ a ∧ a < 256) : bits .and .u8 a 127 = a % 128 := by
  obtain ⟨a, rfl⟩ := Int.eq_ofNat_of_zero_le h.1; exact and_127 a (by omega)
theorem d8_and31 {a : Int} (h : 0 ≤ a ∧ a < 256) : bits .and .u8 a 31 = a % 32 := by
  obtain ⟨a, rfl⟩ := Int.eq_ofNat_of_zero_le h.1; exact and_31 a (by omega)
theorem d8_and32 {a : Int} (h : 0 ≤ a ∧ a < 256) : bits .and .u8 a 32 = a / 32 % 2 * 32 := by
  obtain ⟨a, rfl⟩ := Int.eq_ofNat_of_zero_le h.1; exact and_32 a (by omega)
theorem d8_and128 {a : Int} (h : 0 ≤ a ∧ a < 256) : bits .and .u8 a 128 = a / 128 * 128 := by
  obtain ⟨a, rfl⟩ := Int.eq_ofNat_of_zero_le h.1; exact and_128 a (by omega)
theorem d8_or128 {a : Int} (h : 0 ≤ a ∧ a < 256) : bits .or .u8 a 128 = a % 128 + 128 := by
  obtain ⟨a, rfl⟩ := Int.eq_ofNat_of_zero_le h.1; exact or_128 a (by omega)
theorem d8_128or {a : Int} (h : 0 ≤ a ∧ a < 256) : bits .or .u8 128 a = a % 128 + 128 := by
  obtain ⟨a, rfl⟩ := Int.eq_ofNat_of_zero_le h.1; exact or_128' a (by omega)
theorem bv_shl_or {w : Nat} (n : BitVec w) (c k : Nat) (hc : c < 2 ^ k) (hk : k < w) : (n <<< k) ||| BitVec.ofNat w c = (n <<< k) + BitVec.ofNat w c := by
  rw [BitVec.add_eq_or_of_and_eq_zero]
  apply BitVec.eq_of_getLsbD_eq
  intro i hi
  simp only [BitVec.getLsbD_and, BitVec.getLsbD_shiftLeft, BitVec.getLsbD_ofNat, BitVec.getLsbD_zero, hi, decide_true, Bool.true_and]
  by_cases h : i < k
  · simp [h]
  · have : c.testBit i = false := Nat.testBit_lt_two_pow (Nat.lt_of_lt_of_le hc (Nat.pow_le_pow_right (by omega) (by omega)))
    simp [this]
theorem ofInt_wrap64 (x : Int) : BitVec.ofInt 64 (IntKind.i64.wrap x) = BitVec.ofInt 64 x := by
  apply BitVec.eq_of_toNat_eq
  simp only [BitVec.toNat_ofInt]
  congr 1
  unfold IntKind.wrap IntKind.bits IntKind.signed
  simp only [Bool.true_and, decide_eq_true_eq]
  split <;> omega
theorem wrap_toNat64 (x : Int) : IntKind.i64.wrap (((BitVec.ofInt 64 x).toNat : Nat) : Int) = IntKind.i64.wrap x := by
  rw [BitVec.toNat_ofInt]
  unfold IntKind.wrap IntKind.bits IntKind.signed
  simp only [Bool.true_and, decide_eq_true_eq]
  split <;> split <;> omega
theorem ofInt_low {c : Int} (h : 0 ≤ c) : BitVec.ofInt 64 c = BitVec.ofNat 64 c.toNat := by
  obtain ⟨c, rfl⟩ := Int.eq_ofNat_of_zero_le h
  simp
theorem i64_or8 {n c : Int} (hc : 0 ≤ c) (hc' : c < 256) : bits .or .i64 (IntKind.i64.wrap (n * 256)) c = IntKind.i64.wrap (n * 256 + c) := by
  show IntKind.i64.wrap ((BitVec.ofInt 64 (IntKind.i64.wrap (n * 256)) ||| BitVec.ofInt 64 c).toNat : Int) = _
  have e1 : BitVec.ofInt 64 (n * 256) = BitVec.ofInt 64 n <<< 8 := by
    apply BitVec.eq_of_toNat_eq
    simp only [BitVec.toNat_ofInt, BitVec.toNat_shiftLeft, Nat.shiftLeft_eq]
    omega
  rw [ofInt_wrap64, e1, ofInt_low hc, bv_shl_or _ _ 8 (by omega) (by omega), ← ofInt_low hc, ← e1, ← BitVec.ofInt_add, wrap_toNat64]
theorem i64_or7 {n c : Int} (hc : 0 ≤ c) (hc' : c < 128) : bits .or .i64 (IntKind.i64.wrap (n * 128)) c = IntKind.i64.wrap (n * 128 + c) := by
  show IntKind.i64.wrap ((BitVec.ofInt 64 (IntKind.i64.wrap (n * 128)) ||| BitVec.ofInt 64 c).toNat : Int) = _
  have e1 : BitVec.ofInt 64 (n * 128) = BitVec.ofInt 64 n <<< 7 := by
    apply BitVec.eq_of_toNat_eq
    simp only [BitVec.toNat_ofInt, BitVec.toNat_shiftLeft, Nat.shiftLeft_eq]
    omega
  rw [ofInt_wrap64, e1, ofInt_low hc, bv_shl_or _ _ 7 (by omega) (by omega), ← ofInt_low hc, ← e1, ← BitVec.ofInt_add, wrap_toNat64]
theorem u64_or7 {n c : Int} (hn : 0 ≤ n) (hn' : n < 144115188075855872) (hc : 0 ≤ c) (hc' : c < 128) : bits .or .u64 (n * 128) c = n * 128 + c := by
  rw [u64_or _ _ (by omega) (by omega) (by omega) (by omega)]
  have e : (n * 128).toNat = n.toNat * 2 ^ 7 := by omega
  rw [e, nat_or_add _ _ _ (by omega)]
  omega
def ByteL (p : List Int) : Prop := ∀ i : Nat, 0 ≤ at' p (i : Int) ∧ at' p (i : Int) < 256
theorem atN (l : List Int) (i : Nat) : at' l (i : Int) = l.getD i 0 := by unfold at'; rw [Int.toNat_natCast]
theorem ByteL.of {l : List Int} (h : ∀ x ∈ l, 0 ≤ x ∧ x < 256) : ByteL l := by
  intro i
  rw [atN, List.getD_eq_getElem?_getD]
  cases e : l[i]? with
  | none => simp
  | some x => exact h x (List.mem_of_getElem? e)
theorem drop_at {l : List Int} {i : Nat} (h : i < l.length) : l.drop i = at' l (i : Int) :: l.drop (i + 1) := by
  rw [atN, List.drop_eq_getElem_cons h, List.getD_eq_getElem?_getD, List.getElem?_eq_getElem h]; rfl
theorem at_drop (l : List Int) (o i : Nat) : at' (l.drop o) (i : Int) = at' l ((o + i : Nat) : Int) := by
  rw [atN, atN, List.getD_eq_getElem?_getD, List.getElem?_drop, ← List.getD_eq_getElem?_getD]
theorem at_take {l : List Int} {n i : Nat} (h : i < n) : at' (l.take n) (i : Int) = at' l (i : Int) := by
  rw [atN, atN, List.getD_eq_getElem?_getD, List.getElem?_take, if_pos h, ← List.getD_eq_getElem?_getD]
theorem Vw.cell {w : World} {A : Option Addr} {n c : Nat} {l : List Int} {k : IntKind} (h : Vw k w (.slice A n c) l) (h0 : 0 < l.length) : ∃ ad, A = some ad ∧ n = l.length ∧ ∀ i : Nat, i < l.length → w.cell? (ad.add i) = some (.int k (at' l (i : Int))) := by
  obtain ⟨A', c', e, hc, hr⟩ := h
  cases e
  obtain ⟨ad, e, _, hcl⟩ := hr.get (by rw [nums_length]; exact h0)
  exact ⟨ad, e, rfl, fun i hi => hcl.numN hi⟩
end Go.Proofs.YtcflokckfjkdpaaDoor.Eng
end
section
set_option linter.unusedVariables false
set_option linter.unusedSimpArgs false
namespace Go.Proofs.YtcflokckfjkdpaaDoor.Der
open Go Go.RowKit Go.Proofs.YtcflokckfjkdpaaDoor.Eng
def tagGo : List Int → Bool → Int → Nat → Int × Nat × Int × Nat
  | [], _, _, i => (0, 0, 2, i)
  | x :: r, first, n, i =>
    if (first = true ∧ x = 128) ∨ 268435455 < n * 128 + x % 128 ∨ (x < 128 ∧ n * 128 + x % 128 < 31) then (0, 0, 30, i)
    else if x < 128 then (n * 128 + x % 128, i + 1, 0, 0) else tagGo r false (n * 128 + x % 128) (i + 1)
def tagR (b : List Int) (p : Nat) : Int × Nat × Int × Nat :=
  if at' b p % 32 = 31 then tagGo (b.drop (p + 1)) true 0 (p + 1)
  else if at' b p % 32 = 0 ∧ at' b p < 64 then (0, 0, 30, p) else (at' b p % 32, p + 1, 0, 0)
def sat (n : Int) : Int := if 16777217 < n then 16777217 else n
def lenFold (l : List Int) : Int := l.foldl (fun n c => sat (n * 256 + c)) 0
def lenR (b : List Int) (i : Nat) : Int × Nat × Int × Nat :=
  if b.length ≤ i then (0, 0, 2, b.length)
  else if at' b i < 128 then (if ((b.length - (i + 1) : Nat) : Int) < at' b i then (0, 0, 31, i) else (at' b i, i + 1, 0, 0))
  else if at' b i = 128 ∨ at' b i = 255 then (0, 0, 31, i)
  else if b.length < i + 1 + (at' b i - 128).toNat then (0, 0, 2, b.length)
  else if lenFold ((b.drop (i + 1)).take (at' b i - 128).toNat) < 128 ∨ at' b (i + 1) = 0 then (0, 0, 31, i)
  else if ((b.length - (i + 1 + (at' b i - 128).toNat) : Nat) : Int) < lenFold ((b.drop (i + 1)).take (at' b i - 128).toNat) then (0, 0, 31, i)
  else (lenFold ((b.drop (i + 1)).take (at' b i - 128).toNat), i + 1 + (at' b i - 128).toNat, 0, 0)
structure Tlv where
  cls : Int
  tag : Int
  cons : Bool
  data : List Int
  raw : List Int
deriving DecidableEq
def splitGo (b : List Int) : Nat → Nat → List Tlv → List Tlv × Int × Nat
  | 0, p, acc => (acc, 0, b.length)
  | f + 1, p, acc =>
    if b.length ≤ p then (acc, 0, b.length) else
    if acc.length = 65536 then ([], 4, p) else
    if (tagR b p).2.2.1 ≠ 0 then ([], (tagR b p).2.2.1, (tagR b p).2.2.2) else
    if (lenR b (tagR b p).2.1).2.2.1 ≠ 0 then ([], (lenR b (tagR b p).2.1).2.2.1, (lenR b (tagR b p).2.1).2.2.2) else
    splitGo b f ((lenR b (tagR b p).2.1).2.1 + (lenR b (tagR b p).2.1).1.toNat)
      (acc ++ [⟨at' b p / 64, (tagR b p).1, decide (at' b p / 32 % 2 = 1), (b.drop (lenR b (tagR b p).2.1).2.1).take (lenR b (tagR b p).2.1).1.toNat, (b.drop p).take ((lenR b (tagR b p).2.1).2.1 + (lenR b (tagR b p).2.1).1.toNat - p)⟩])
def splitR (b : List Int) : List Tlv × Int × Nat := if 16777216 < b.length then ([], 3, 0) else splitGo b (b.length + 1) 0 []
def noTlv : Tlv := ⟨0, 0, false, [], []⟩
def sevenHi : Nat → Nat → List Int
  | 0, _ => []
  | f + 1, v => if v = 0 then [] else sevenHi f (v / 128) ++ [((v % 128 + 128 : Nat) : Int)]
def sevenR (v : Nat) : List Int := sevenHi 10 (v / 128) ++ [((v % 128 : Nat) : Int)]
def bytesBE : Nat → Nat → List Int
  | 0, _ => []
  | f + 1, v => if v = 0 then [] else bytesBE f (v / 256) ++ [((v % 256 : Nat) : Int)]
def lenBytes (n : Nat) : List Int := if n < 128 then [(n : Int)] else (128 + ((bytesBE 4 n).length : Int)) :: bytesBE 4 n
def headR (cls tag : Int) (cons : Bool) (n : Nat) : List Int :=
  (if tag < 31 then [cls * 64 + (if cons then 32 else 0) + tag] else (cls * 64 + (if cons then 32 else 0) + 31) :: sevenR tag.toNat) ++ lenBytes n
def putR (cls tag : Int) (cons : Bool) (data : List (List Int)) : List Int × Int :=
  if cls < 0 ∨ 3 < cls ∨ tag < 0 ∨ 268435455 < tag ∨ (cls = 0 ∧ tag = 0) then ([], 1)
  else if 16777216 < (data.map List.length).sum then ([], 3)
  else (headR cls tag cons (data.map List.length).sum ++ data.flatten, 0)
def whole (d : List Int) : Bool := decide (d.length = 1) || (decide (1 < d.length) && !(decide (at' d 0 = 0 ∧ at' d 1 < 128)) && !(decide (at' d 0 = 255 ∧ 128 ≤ at' d 1)))
def beVal (d : List Int) : Int := d.foldl (fun n c => n * 256 + c) 0
def intR (d : List Int) : Int × Int := if whole d = false then (0, 6) else if 8 < d.length then (0, 3) else (IntKind.i64.wrap (beVal d - (if 128 ≤ at' d 0 then 256 ^ d.length else 0)), 0)
def bitsR (d : List Int) : List Int × Int × Int :=
  if d.length = 0 ∨ 7 < at' d 0 ∨ (at' d 0 ≠ 0 ∧ d.length = 1) then ([], 0, 6)
  else if at' d (d.length - 1) % 2 ^ (at' d 0).toNat ≠ 0 then ([], 0, 6)
  else (d.drop 1, at' d 0, 0)
def bitAt (b : List Int) (i : Nat) : Int := at' b (i / 8) / 2 ^ (7 - i % 8) % 2
def flagSum (b : List Int) : Nat → Int
  | 0 => 0
  | k + 1 => flagSum b k + bitAt b k * 2 ^ k
def flagsR (d : List Int) : Int × Int :=
  if (bitsR d).2.2 ≠ 0 then (0, (bitsR d).2.2) else if 4 < (bitsR d).1.length then (0, 3) else (flagSum (bitsR d).1 (8 * (bitsR d).1.length), 0)
end Go.Proofs.YtcflokckfjkdpaaDoor.Der
end
section
set_option linter.unusedVariables false
set_option linter.unusedSimpArgs false
namespace Go.Proofs.YtcflokckfjkdpaaDoor.Der
open Go Go.RowKit Go.Proofs.YtcflokckfjkdpaaDoor.Eng
def S (l : List UInt8) : ByteArray := ⟨l.toArray⟩
theorem S_size (l : List UInt8) : (S l).size = l.length := by simp [S, ByteArray.size]
theorem S_append (a b : List UInt8) : S a ++ S b = S (a ++ b) := by
  apply ByteArray.ext
  simp [S]
theorem S_toList (l : List UInt8) : (S l).toList = l := by
  rw [ByteArray.toList_eq]; simp [S]
theorem S_nil : S [] = ⟨#[]⟩ := rfl
theorem S_dot : S [46] = ⟨#[46]⟩ := rfl
def digsF : Nat → Nat → List UInt8
  | 0, _ => []
  | f + 1, u => if u < 10 then [UInt8.ofNat (48 + u)] else digsF f (u / 10) ++ [UInt8.ofNat (48 + u % 10)]
def digs (u : Nat) : List UInt8 := digsF 20 u
theorem digsF_eq : ∀ (f u : Nat), u < 10 ^ f → digsF f u = Lib.decDigits u ∨ f = 0
  | 0, u, h => .inr rfl
  | f + 1, u, h => by
    left
    rw [digsF, Lib.decDigits]
    by_cases h10 : u < 10
    · rw [if_pos h10, dif_pos h10]
    · rw [if_neg h10, dif_neg h10]
      rw [Nat.pow_succ] at h
      rcases digsF_eq f (u / 10) (by omega) with h' | h'
      · rw [h']
      · subst h'; simp at h; omega
theorem digs_eq {u : Nat} (h : u < 100000000000000000000) : Lib.decDigits u = digs u := by
  rcases digsF_eq 20 u (by simpa using h) with h' | h'
  · exact h'.symm
  · omega
theorem itoa_eq {n : Int} (h : 0 ≤ n) (h' : n < 100000000000000000000) : Lib.itoa n = digs n.toNat := by
  unfold Lib.itoa
  rw [if_neg (by omega), digs_eq (by omega)]
theorem digsF_len : ∀ (f u : Nat), (digsF f u).length ≤ f
  | 0, u => by simp [digsF]
  | f + 1, u => by
    rw [digsF]
    split
    · simp
    · have := digsF_len f (u / 10)
      simp; omega
theorem digs_len (u : Nat) : (digs u).length ≤ 20 := digsF_len 20 u
def satA (v : Int) : Int := if 1099511627776 < v then 1099511627776 else v
def oidGo : List Int → Int → List UInt8 → List UInt8 × Int
  | [], _, s => (s, 0)
  | x :: r, v, s =>
    if 128 ≤ x then oidGo r (satA (v * 128 + x % 128)) s
    else if s = [] then
      (if 2147483647 < satA (v * 128 + x % 128) - 40 * min (satA (v * 128 + x % 128) / 40) 2 then ([], 3)
       else oidGo r 0 (digs (min (satA (v * 128 + x % 128) / 40) 2).toNat ++ (46 :: digs (satA (v * 128 + x % 128) - 40 * min (satA (v * 128 + x % 128) / 40) 2).toNat)))
    else if 2147483647 < satA (v * 128 + x % 128) then ([], 3) else oidGo r 0 (s ++ (46 :: digs (satA (v * 128 + x % 128)).toNat))
def padGo : Bool → List Int → Bool
  | _, [] => false
  | f, x :: r => (decide (x = 128) && f) || padGo (decide (x < 128)) r
def oidR (d : List Int) : List UInt8 × Int :=
  if d.length = 0 ∨ 128 ≤ at' d (d.length - 1 : Nat) then ([], 6) else if padGo true d = true then ([], 6) else oidGo d 0 []
def arcsGo : List Int → List Int → Int → Nat → Option (List Int)
  | [], l, _, _ => some l
  | c :: r, l, v, n => if c = 46 ∧ 0 < n then arcsGo r (l ++ [v]) 0 0 else if c < 48 ∨ 57 < c ∨ (n = 1 ∧ v = 0) then none else arcsGo r l (satA (10 * v + (c - 48))) (min (n + 1) 20)
def arcsR (s : List Int) : Option (List Int) :=
  match arcsGo (s ++ [46]) [] 0 0 with
  | none => none
  | some l => if l.length < 2 ∨ 2 < at' l 0 ∨ (at' l 0 < 2 ∧ 40 ≤ at' l 1) then none else some l
def putOidR (s : List Int) : List Int × Int :=
  match arcsR s with
  | none => ([], 6)
  | some l => if l.any (fun v => decide (2147483647 < v)) then ([], 3) else (sevenR (40 * at' l 0 + at' l 1).toNat ++ (l.drop 2).flatMap (fun v => sevenR v.toNat), 0)
end Go.Proofs.YtcflokckfjkdpaaDoor.Der
end
section
set_option linter.unusedVariables false
set_option linter.unusedSimpArgs false
namespace Go.Proofs.YtcflokckfjkdpaaDoor.Der
open Go Go.RowKit Go.Proofs Go.Proofs.YtcflokckfjkdpaaDoor.Eng Go.Proofs.YtcflokckfjkdpaaDoor.Code
set_option maxRecDepth 100000
attribute [local irreducible] callK S.W opsW scrW scrT
theorem i64_or7' {n c : Int} (hn : 0 ≤ n) (hn' : n < 1000000000000) (hc : 0 ≤ c) (hc' : c < 128) : bits .or .i64 (n * 128) c = n * 128 + c := by
  have := i64_or7 (n := n) hc hc'
  rwa [w64 (by omega) (by omega), w64 (by omega) (by omega)] at this
theorem i64_or8' {n c : Int} (hn : 0 ≤ n) (hn' : n < 1000000000000) (hc : 0 ≤ c) (hc' : c < 256) : bits .or .i64 (n * 256) c = n * 256 + c := by
  have := i64_or8 (n := n) hc hc'
  rwa [w64 (by omega) (by omega), w64 (by omega) (by omega)] at this
def tup4 (r : Int × Nat × Int × Nat) : Value := .tuple #[.int .i64 r.1, .int .i64 r.2.1, .int .i64 r.2.2.1, .int .i64 r.2.2.2]
set_option maxHeartbeats 1000000 in
theorem tag_vw {w : World} {v : Value} {b : List Int} {p : Nat} (hv : Vw .u8 w v b) (hb : ByteL b) (hp : p < b.length) (hm : b.length ≤ 16777216) (K : Value → World → Prop)
    (hK : K (tup4 (tagR b p)) w) : callK Tryd.prog 52 [v, .int .i64 p] w K := by
  obtain ⟨A, c, rfl, hc, hr⟩ := hv
  refine call_of Tryd.func52 Code.h52 (by simp [Code.c52]) ?_
  obtain ⟨ad, rfl, _, hcl⟩ := hr.get (by rw [nums_length]; omega)
  have cell : ∀ i : Nat, i < b.length → w.cell? (ad.add i) = some (.int .u8 (at' b (i : Int))) := fun i hi => hcl.numN hi
  have c0 := cell p hp
  have b0 := hb p
  have e31 := d8_and31 b0
  unfold tagR at hK
  by_cases h31 : at' b (p : Int) % 32 = 31
  · rw [if_pos h31] at hK
    simp (disch := omega) only [wu64, wu32, wu8, fdiv_nn, EO, ↓EP, EQ, EM, ↓reduceIte, Int.reduceAdd, Int.reduceEq, Int.reduceLE, Int.reduceLT, Int.reduceMul, Int.reduceNeg, Int.reducePow, Int.reduceSub, Int.reduceToNat, Nat.reduceAdd, Nat.reduceEqDiff, Nat.reduceLT, Nat.reduceLeDiff, Nat.reduceMul, reduceCtorEq, Code.c52, c0, e31, h31]
    refine loop_inv (fun t ρ w' => w' = w ∧ ∃ (i : Nat) (n : Int), ρ 5 = .int .i64 i ∧ ρ 4 = .int .i64 n ∧ p + 1 ≤ i ∧ i ≤ b.length ∧ t = b.length - i ∧ 0 ≤ n ∧ n ≤ 268435455 ∧ tagGo (b.drop i) (decide (i = p + 1)) n i = tagGo (b.drop (p + 1)) true 0 (p + 1)) _ ⟨rfl, p + 1, 0, by simp (disch := omega) only [wu64, wu32, wu8, fdiv_nn, EO, ↓EP, EQ, EM, ↓reduceIte, Int.reduceAdd, Int.reduceEq, Int.reduceLE, Int.reduceLT, Int.reduceMul, Int.reduceNeg, Int.reducePow, Int.reduceSub, Int.reduceToNat, Nat.reduceAdd, Nat.reduceEqDiff, Nat.reduceLT, Nat.reduceLeDiff, Nat.reduceMul, reduceCtorEq, Int.natCast_add], by simp (disch := omega) only [wu64, wu32, wu8, fdiv_nn, EO, ↓EP, EQ, EM, ↓reduceIte, Int.reduceAdd, Int.reduceEq, Int.reduceLE, Int.reduceLT, Int.reduceMul, Int.reduceNeg, Int.reducePow, Int.reduceSub, Int.reduceToNat, Nat.reduceAdd, Nat.reduceEqDiff, Nat.reduceLT, Nat.reduceLeDiff, Nat.reduceMul, reduceCtorEq], by omega, by omega, rfl, by omega, by omega, by rw [decide_eq_true rfl]⟩ ?_
    rintro t ρ w' hf ⟨rfl, i, n, h5, h4, hi, hi', rfl, hn, hn', hgo⟩ N hN
    have r0 : ρ 0 = .slice (some ad) b.length c := by rw [hf 0 rfl]; simp (disch := omega) only [wu64, wu32, wu8, fdiv_nn, EO, ↓EP, EQ, EM, ↓reduceIte, Int.reduceAdd, Int.reduceEq, Int.reduceLE, Int.reduceLT, Int.reduceMul, Int.reduceNeg, Int.reducePow, Int.reduceSub, Int.reduceToNat, Nat.reduceAdd, Nat.reduceEqDiff, Nat.reduceLT, Nat.reduceLeDiff, Nat.reduceMul, reduceCtorEq]
    have r1 : ρ 1 = .int .i64 p := by rw [hf 1 rfl]; simp (disch := omega) only [wu64, wu32, wu8, fdiv_nn, EO, ↓EP, EQ, EM, ↓reduceIte, Int.reduceAdd, Int.reduceEq, Int.reduceLE, Int.reduceLT, Int.reduceMul, Int.reduceNeg, Int.reducePow, Int.reduceSub, Int.reduceToNat, Nat.reduceAdd, Nat.reduceEqDiff, Nat.reduceLT, Nat.reduceLeDiff, Nat.reduceMul, reduceCtorEq]
    clear hf
    rw [← hgo] at hK
    by_cases hil : (i : Int) < (b.length : Int)
    · have ci := cell i (by omega)
      have bi := hb i
      have e127 := d8_and127 bi
      rw [drop_at (show i < b.length by omega), tagGo] at hK
      have hnx : tagGo (b.drop (i + 1)) (decide (i + 1 = p + 1)) (n * 128 + at' b (i : Int) % 128) (i + 1) = tagGo (b.drop (i + 1)) false (n * 128 + at' b (i : Int) % 128) (i + 1) := by
        rw [decide_eq_false (show ¬ i + 1 = p + 1 by omega)]
      have hgo' : ¬ ((decide (i = p + 1) = true ∧ at' b (i : Int) = 128) ∨ 268435455 < n * 128 + at' b (i : Int) % 128 ∨ (at' b (i : Int) < 128 ∧ n * 128 + at' b (i : Int) % 128 < 31)) → ¬ at' b (i : Int) < 128 → tagGo (b.drop (i + 1)) (decide (i + 1 = p + 1)) (n * 128 + at' b (i : Int) % 128) (i + 1) = tagGo (b.drop (p + 1)) true 0 (p + 1) := fun h1 h2 => by
        rw [hnx, ← hgo, drop_at (show i < b.length by omega), tagGo, if_neg h1, if_neg h2]
      have hor := i64_or7' (n := n) (c := at' b (i : Int) % 128) hn (by omega) (by omega) (by omega)
      have hip : ((i : Int) = (p : Int) + 1) = (i = p + 1) := propext ⟨fun h => by omega, fun h => by omega⟩
      by_cases hA : i = p + 1
      · by_cases hB : at' b (i : Int) = 128
        · rw [if_pos (.inl ⟨decide_eq_true hA, hB⟩)] at hK
          simp (disch := omega) only [wu64, wu32, wu8, fdiv_nn, EO, ↓EP, EQ, EM, ↓reduceIte, Int.reduceAdd, Int.reduceEq, Int.reduceLE, Int.reduceLT, Int.reduceMul, Int.reduceNeg, Int.reducePow, Int.reduceSub, Int.reduceToNat, Nat.reduceAdd, Nat.reduceEqDiff, Nat.reduceLT, Nat.reduceLeDiff, Nat.reduceMul, reduceCtorEq, W_join, h4, h5, r0, r1, ci, e127, hor]
          exact hK
        · clear hgo hnx
          by_cases hC : 268435455 < n * 128 + at' b (i : Int) % 128
          · rw [if_pos (.inr (.inl hC))] at hK
            simp (disch := omega) only [wu64, wu32, wu8, fdiv_nn, EO, ↓EP, EQ, EM, ↓reduceIte, Int.reduceAdd, Int.reduceEq, Int.reduceLE, Int.reduceLT, Int.reduceMul, Int.reduceNeg, Int.reducePow, Int.reduceSub, Int.reduceToNat, Nat.reduceAdd, Nat.reduceEqDiff, Nat.reduceLT, Nat.reduceLeDiff, Nat.reduceMul, reduceCtorEq, W_join, h4, h5, r0, r1, ci, e127, hor]
            exact hK
          · by_cases hD : at' b (i : Int) < 128
            · by_cases hE : n * 128 + at' b (i : Int) % 128 < 31
              · rw [if_pos (.inr (.inr ⟨hD, hE⟩))] at hK
                simp (disch := omega) only [wu64, wu32, wu8, fdiv_nn, EO, ↓EP, EQ, EM, ↓reduceIte, Int.reduceAdd, Int.reduceEq, Int.reduceLE, Int.reduceLT, Int.reduceMul, Int.reduceNeg, Int.reducePow, Int.reduceSub, Int.reduceToNat, Nat.reduceAdd, Nat.reduceEqDiff, Nat.reduceLT, Nat.reduceLeDiff, Nat.reduceMul, reduceCtorEq, W_join, h4, h5, r0, r1, ci, e127, hor]
                exact hK
              · rw [if_neg (fun h => by rcases h with h | h | h; exact hB h.2; exact hC h; exact hE h.2), if_pos hD] at hK
                simp (disch := omega) only [wu64, wu32, wu8, fdiv_nn, EO, ↓EP, EQ, EM, ↓reduceIte, Int.reduceAdd, Int.reduceEq, Int.reduceLE, Int.reduceLT, Int.reduceMul, Int.reduceNeg, Int.reducePow, Int.reduceSub, Int.reduceToNat, Nat.reduceAdd, Nat.reduceEqDiff, Nat.reduceLT, Nat.reduceLeDiff, Nat.reduceMul, reduceCtorEq, W_join, h4, h5, r0, r1, ci, e127, hor]
                exact hK
            · have hno : ¬ ((decide (i = p + 1) = true ∧ at' b (i : Int) = 128) ∨ 268435455 < n * 128 + at' b (i : Int) % 128 ∨ (at' b (i : Int) < 128 ∧ n * 128 + at' b (i : Int) % 128 < 31)) := fun h => by rcases h with h | h | h; exact hB h.2; exact hC h; exact hD h.1
              simp (disch := omega) only [wu64, wu32, wu8, fdiv_nn, EO, ↓EP, EQ, EM, ↓reduceIte, Int.reduceAdd, Int.reduceEq, Int.reduceLE, Int.reduceLT, Int.reduceMul, Int.reduceNeg, Int.reducePow, Int.reduceSub, Int.reduceToNat, Nat.reduceAdd, Nat.reduceEqDiff, Nat.reduceLT, Nat.reduceLeDiff, Nat.reduceMul, reduceCtorEq, W_join, h4, h5, r0, r1, ci, e127, hor]
              exact hN (b.length - (i + 1)) _ _ (by omega) ⟨rfl, i + 1, n * 128 + at' b (i : Int) % 128, by simp (disch := omega) only [wu64, wu32, wu8, fdiv_nn, EO, ↓EP, EQ, EM, ↓reduceIte, Int.reduceAdd, Int.reduceEq, Int.reduceLE, Int.reduceLT, Int.reduceMul, Int.reduceNeg, Int.reducePow, Int.reduceSub, Int.reduceToNat, Nat.reduceAdd, Nat.reduceEqDiff, Nat.reduceLT, Nat.reduceLeDiff, Nat.reduceMul, reduceCtorEq, h5, Int.natCast_add], by simp (disch := omega) only [wu64, wu32, wu8, fdiv_nn, EO, ↓EP, EQ, EM, ↓reduceIte, Int.reduceAdd, Int.reduceEq, Int.reduceLE, Int.reduceLT, Int.reduceMul, Int.reduceNeg, Int.reducePow, Int.reduceSub, Int.reduceToNat, Nat.reduceAdd, Nat.reduceEqDiff, Nat.reduceLT, Nat.reduceLeDiff, Nat.reduceMul, reduceCtorEq], by omega, by omega, rfl, by omega, by omega, hgo' hno hD⟩
      · clear hgo hnx
        by_cases hC : 268435455 < n * 128 + at' b (i : Int) % 128
        · rw [if_pos (.inr (.inl hC))] at hK
          simp (disch := omega) only [wu64, wu32, wu8, fdiv_nn, EO, ↓EP, EQ, EM, ↓reduceIte, Int.reduceAdd, Int.reduceEq, Int.reduceLE, Int.reduceLT, Int.reduceMul, Int.reduceNeg, Int.reducePow, Int.reduceSub, Int.reduceToNat, Nat.reduceAdd, Nat.reduceEqDiff, Nat.reduceLT, Nat.reduceLeDiff, Nat.reduceMul, reduceCtorEq, W_join, h4, h5, r0, r1, ci, e127, hor]
          exact hK
        · by_cases hD : at' b (i : Int) < 128
          · by_cases hE : n * 128 + at' b (i : Int) % 128 < 31
            · rw [if_pos (.inr (.inr ⟨hD, hE⟩))] at hK
              simp (disch := omega) only [wu64, wu32, wu8, fdiv_nn, EO, ↓EP, EQ, EM, ↓reduceIte, Int.reduceAdd, Int.reduceEq, Int.reduceLE, Int.reduceLT, Int.reduceMul, Int.reduceNeg, Int.reducePow, Int.reduceSub, Int.reduceToNat, Nat.reduceAdd, Nat.reduceEqDiff, Nat.reduceLT, Nat.reduceLeDiff, Nat.reduceMul, reduceCtorEq, W_join, h4, h5, r0, r1, ci, e127, hor]
              exact hK
            · rw [if_neg (fun h => by rcases h with h | h | h; exact hA (of_decide_eq_true h.1); exact hC h; exact hE h.2), if_pos hD] at hK
              simp (disch := omega) only [wu64, wu32, wu8, fdiv_nn, EO, ↓EP, EQ, EM, ↓reduceIte, Int.reduceAdd, Int.reduceEq, Int.reduceLE, Int.reduceLT, Int.reduceMul, Int.reduceNeg, Int.reducePow, Int.reduceSub, Int.reduceToNat, Nat.reduceAdd, Nat.reduceEqDiff, Nat.reduceLT, Nat.reduceLeDiff, Nat.reduceMul, reduceCtorEq, W_join, h4, h5, r0, r1, ci, e127, hor]
              exact hK
          · have hno : ¬ ((decide (i = p + 1) = true ∧ at' b (i : Int) = 128) ∨ 268435455 < n * 128 + at' b (i : Int) % 128 ∨ (at' b (i : Int) < 128 ∧ n * 128 + at' b (i : Int) % 128 < 31)) := fun h => by rcases h with h | h | h; exact hA (of_decide_eq_true h.1); exact hC h; exact hD h.1
            simp (disch := omega) only [wu64, wu32, wu8, fdiv_nn, EO, ↓EP, EQ, EM, ↓reduceIte, Int.reduceAdd, Int.reduceEq, Int.reduceLE, Int.reduceLT, Int.reduceMul, Int.reduceNeg, Int.reducePow, Int.reduceSub, Int.reduceToNat, Nat.reduceAdd, Nat.reduceEqDiff, Nat.reduceLT, Nat.reduceLeDiff, Nat.reduceMul, reduceCtorEq, W_join, h4, h5, r0, r1, ci, e127, hor]
            exact hN (b.length - (i + 1)) _ _ (by omega) ⟨rfl, i + 1, n * 128 + at' b (i : Int) % 128, by simp (disch := omega) only [wu64, wu32, wu8, fdiv_nn, EO, ↓EP, EQ, EM, ↓reduceIte, Int.reduceAdd, Int.reduceEq, Int.reduceLE, Int.reduceLT, Int.reduceMul, Int.reduceNeg, Int.reducePow, Int.reduceSub, Int.reduceToNat, Nat.reduceAdd, Nat.reduceEqDiff, Nat.reduceLT, Nat.reduceLeDiff, Nat.reduceMul, reduceCtorEq, h5, Int.natCast_add], by simp (disch := omega) only [wu64, wu32, wu8, fdiv_nn, EO, ↓EP, EQ, EM, ↓reduceIte, Int.reduceAdd, Int.reduceEq, Int.reduceLE, Int.reduceLT, Int.reduceMul, Int.reduceNeg, Int.reducePow, Int.reduceSub, Int.reduceToNat, Nat.reduceAdd, Nat.reduceEqDiff, Nat.reduceLT, Nat.reduceLeDiff, Nat.reduceMul, reduceCtorEq], by omega, by omega, rfl, by omega, by omega, hgo' hno hD⟩
    · have hil' : i = b.length := by omega
      subst hil'
      rw [List.drop_length, tagGo] at hK
      simp (disch := omega) only [wu64, wu32, wu8, fdiv_nn, EO, ↓EP, EQ, EM, ↓reduceIte, Int.reduceAdd, Int.reduceEq, Int.reduceLE, Int.reduceLT, Int.reduceMul, Int.reduceNeg, Int.reducePow, Int.reduceSub, Int.reduceToNat, Nat.reduceAdd, Nat.reduceEqDiff, Nat.reduceLT, Nat.reduceLeDiff, Nat.reduceMul, reduceCtorEq, W_join, h4, h5, r0, r1]
      exact hK
  · rw [if_neg h31] at hK
    by_cases h0 : at' b (p : Int) % 32 = 0
    · by_cases h6 : at' b (p : Int) < 64
      · rw [if_pos ⟨h0, h6⟩] at hK
        have e6 : at' b (p : Int) / 64 = 0 := by omega
        simp (disch := omega) only [wu64, wu32, wu8, fdiv_nn, EO, ↓EP, EQ, EM, ↓reduceIte, Int.reduceAdd, Int.reduceEq, Int.reduceLE, Int.reduceLT, Int.reduceMul, Int.reduceNeg, Int.reducePow, Int.reduceSub, Int.reduceToNat, Nat.reduceAdd, Nat.reduceEqDiff, Nat.reduceLT, Nat.reduceLeDiff, Nat.reduceMul, reduceCtorEq, Code.c52, c0, e31, h0, e6]
        exact hK
      · rw [if_neg (fun h => h6 h.2)] at hK
        simp (disch := omega) only [wu64, wu32, wu8, fdiv_nn, EO, ↓EP, EQ, EM, ↓reduceIte, Int.reduceAdd, Int.reduceEq, Int.reduceLE, Int.reduceLT, Int.reduceMul, Int.reduceNeg, Int.reducePow, Int.reduceSub, Int.reduceToNat, Nat.reduceAdd, Nat.reduceEqDiff, Nat.reduceLT, Nat.reduceLeDiff, Nat.reduceMul, reduceCtorEq, Code.c52, c0, e31, h0]
        rw [h0] at hK
        exact hK
    · rw [if_neg (fun h => h0 h.1)] at hK
      simp (disch := omega) only [wu64, wu32, wu8, fdiv_nn, EO, ↓EP, EQ, EM, ↓reduceIte, Int.reduceAdd, Int.reduceEq, Int.reduceLE, Int.reduceLT, Int.reduceMul, Int.reduceNeg, Int.reducePow, Int.reduceSub, Int.reduceToNat, Nat.reduceAdd, Nat.reduceEqDiff, Nat.reduceLT, Nat.reduceLeDiff, Nat.reduceMul, reduceCtorEq, Code.c52, c0, e31]
      exact hK
theorem fold_snoc (l : List Int) (c : Int) : lenFold (l ++ [c]) = sat (lenFold l * 256 + c) := by simp [lenFold]
theorem fold_bd {l : List Int} (h : ∀ x ∈ l, 0 ≤ x ∧ x < 256) : 0 ≤ lenFold l ∧ lenFold l ≤ 16777217 := by
  have : ∀ (l : List Int) (n : Int), (∀ x ∈ l, 0 ≤ x ∧ x < 256) → 0 ≤ n → n ≤ 16777217 → 0 ≤ l.foldl (fun n c => sat (n * 256 + c)) n ∧ l.foldl (fun n c => sat (n * 256 + c)) n ≤ 16777217 := by
    intro l
    induction l with
    | nil => intro n _ h1 h2; exact ⟨h1, h2⟩
    | cons x r ih =>
      intro n hl h1 h2
      have hx := hl x (by simp)
      have hs : 0 ≤ sat (n * 256 + x) ∧ sat (n * 256 + x) ≤ 16777217 := by unfold sat; split <;> omega
      exact ih _ (fun y hy => hl y (by simp [hy])) hs.1 hs.2
  exact this l 0 h (by omega) (by omega)
theorem byteL_mem {l : List Int} (h : ByteL l) : ∀ x ∈ l, 0 ≤ x ∧ x < 256 := by
  intro x hx
  obtain ⟨i, hi⟩ := List.getElem?_of_mem hx
  have := h i
  rw [atN, List.getD_eq_getElem?_getD, hi] at this
  exact this
theorem take_snoc {l : List Int} {j : Nat} (h : j < l.length) : l.take (j + 1) = l.take j ++ [at' l (j : Int)] := by
  rw [List.take_add_one, List.getElem?_eq_getElem h, atN, List.getD_eq_getElem?_getD, List.getElem?_eq_getElem h]; rfl
theorem and_i64_127 : ∀ a : Nat, a < 256 → bits .and .i64 (a : Int) 127 = (a : Int) % 128 := by decide +kernel
theorem i64_and127 {a : Int} (h : 0 ≤ a ∧ a < 256) : bits .and .i64 a 127 = a % 128 := by
  obtain ⟨a, rfl⟩ := Int.eq_ofNat_of_zero_le h.1; exact and_i64_127 a (by omega)
theorem sub_cells {w : World} {A : Option Addr} {l : List Int} {c lo : Nat} (h : Rd w A (nums .u8 l)) (hc : l.length ≤ c) (hl : lo < l.length) :
    ∃ ad, subA A c lo 1 = some ad ∧ ∀ j : Nat, lo + j < l.length → w.cell? (ad.add j) = some (.int .u8 (at' l ((lo + j : Nat) : Int))) := by
  obtain ⟨ad, e, _, hcl⟩ := (h.subA c lo hc).get (by simp [nums_length]; omega)
  exact ⟨ad, e, fun j hj => by rw [hcl.numN (j := j) (by simp; omega), at_drop]⟩
set_option maxHeartbeats 1000000 in
theorem length_vw {w : World} {v : Value} {b : List Int} {i : Nat} (hv : Vw .u8 w v b) (hb : ByteL b) (hi : i ≤ b.length) (hm : b.length ≤ 16777216) (K : Value → World → Prop)
    (hK : K (tup4 (lenR b i)) w) : callK Tryd.prog 53 [v, .int .i64 i] w K := by
  obtain ⟨A, c, rfl, hc, hr⟩ := hv
  refine call_of Tryd.func53 Code.h53 (by simp [Code.c53]) ?_
  unfold lenR at hK
  by_cases hil : (i : Int) = (b.length : Int)
  · rw [if_pos (by omega)] at hK
    simp (disch := omega) only [wu64, wu32, wu8, fdiv_nn, EO, ↓EP, EQ, EM, ↓reduceIte, Int.reduceAdd, Int.reduceEq, Int.reduceLE, Int.reduceLT, Int.reduceMul, Int.reduceNeg, Int.reducePow, Int.reduceSub, Int.reduceToNat, Nat.reduceAdd, Nat.reduceEqDiff, Nat.reduceLT, Nat.reduceLeDiff, Nat.reduceMul, reduceCtorEq, Code.c53, hil]
    exact hK
  rw [if_neg (by omega)] at hK
  obtain ⟨ad, e, _, hcl⟩ := hr.get (by rw [nums_length]; omega)
  subst e
  have cell : ∀ i : Nat, i < b.length → w.cell? (ad.add i) = some (.int .u8 (at' b (i : Int))) := fun i hi => hcl.numN hi
  have ci := cell i (by omega)
  have bi := hb i
  by_cases h128 : at' b (i : Int) < 128
  · rw [if_pos h128] at hK
    have e2 : ((b.length - (i + 1) : Nat) : Int) = (b.length : Int) - ((i : Int) + 1) := by omega
    rw [e2] at hK
    by_cases hn : (b.length : Int) - ((i : Int) + 1) < at' b (i : Int)
    · rw [if_pos hn] at hK
      simp (disch := omega) only [wu64, wu32, wu8, fdiv_nn, EO, ↓EP, EQ, EM, ↓reduceIte, Int.reduceAdd, Int.reduceEq, Int.reduceLE, Int.reduceLT, Int.reduceMul, Int.reduceNeg, Int.reducePow, Int.reduceSub, Int.reduceToNat, Nat.reduceAdd, Nat.reduceEqDiff, Nat.reduceLT, Nat.reduceLeDiff, Nat.reduceMul, reduceCtorEq, Code.c53, W_join, ci]
      exact hK
    · rw [if_neg hn] at hK
      simp (disch := omega) only [wu64, wu32, wu8, fdiv_nn, EO, ↓EP, EQ, EM, ↓reduceIte, Int.reduceAdd, Int.reduceEq, Int.reduceLE, Int.reduceLT, Int.reduceMul, Int.reduceNeg, Int.reducePow, Int.reduceSub, Int.reduceToNat, Nat.reduceAdd, Nat.reduceEqDiff, Nat.reduceLT, Nat.reduceLeDiff, Nat.reduceMul, reduceCtorEq, Code.c53, W_join, ci]
      exact hK
  rw [if_neg h128] at hK
  have e127 := i64_and127 bi
  by_cases hq : at' b (i : Int) = 128 ∨ at' b (i : Int) = 255
  · rw [if_pos hq] at hK
    rcases hq with hq | hq
    · have e0 : at' b (i : Int) % 128 = 0 := by omega
      simp (disch := omega) only [wu64, wu32, wu8, fdiv_nn, EO, ↓EP, EQ, EM, ↓reduceIte, Int.reduceAdd, Int.reduceEq, Int.reduceLE, Int.reduceLT, Int.reduceMul, Int.reduceNeg, Int.reducePow, Int.reduceSub, Int.reduceToNat, Nat.reduceAdd, Nat.reduceEqDiff, Nat.reduceLT, Nat.reduceLeDiff, Nat.reduceMul, reduceCtorEq, Code.c53, W_join, ci, e127, e0]
      exact hK
    · have e0 : at' b (i : Int) % 128 = 127 := by omega
      simp (disch := omega) only [wu64, wu32, wu8, fdiv_nn, EO, ↓EP, EQ, EM, ↓reduceIte, Int.reduceAdd, Int.reduceEq, Int.reduceLE, Int.reduceLT, Int.reduceMul, Int.reduceNeg, Int.reducePow, Int.reduceSub, Int.reduceToNat, Nat.reduceAdd, Nat.reduceEqDiff, Nat.reduceLT, Nat.reduceLeDiff, Nat.reduceMul, reduceCtorEq, Code.c53, W_join, ci, e127, e0]
      exact hK
  rw [if_neg hq] at hK
  obtain ⟨k, hk⟩ : ∃ k : Nat, at' b (i : Int) = 128 + (k : Int) := ⟨(at' b (i : Int) - 128).toNat, by omega⟩
  have ek : at' b (i : Int) % 128 = (k : Int) := by omega
  have ek' : (at' b (i : Int) - 128).toNat = k := by omega
  rw [ek'] at hK
  have hk1 : 0 < k := by omega
  by_cases hs : b.length < i + 1 + k
  · rw [if_pos hs] at hK
    simp (disch := omega) only [wu64, wu32, wu8, fdiv_nn, EO, ↓EP, EQ, EM, ↓reduceIte, Int.reduceAdd, Int.reduceEq, Int.reduceLE, Int.reduceLT, Int.reduceMul, Int.reduceNeg, Int.reducePow, Int.reduceSub, Int.reduceToNat, Nat.reduceAdd, Nat.reduceEqDiff, Nat.reduceLT, Nat.reduceLeDiff, Nat.reduceMul, reduceCtorEq, Code.c53, W_join, ci, e127, ek]
    exact hK
  rw [if_neg hs] at hK
  obtain ⟨ad2, e2, cell2⟩ := sub_cells hr hc (lo := i + 1) (by omega)
  have elo : ((i : Int) + 1).toNat = i + 1 := by omega
  have eln : ((i : Int) + 1 + (k : Int)).toNat - (i + 1) = k := by omega
  simp (disch := omega) only [wu64, wu32, wu8, fdiv_nn, EO, ↓EP, EQ, EM, ↓reduceIte, Int.reduceAdd, Int.reduceEq, Int.reduceLE, Int.reduceLT, Int.reduceMul, Int.reduceNeg, Int.reducePow, Int.reduceSub, Int.reduceToNat, Nat.reduceAdd, Nat.reduceEqDiff, Nat.reduceLT, Nat.reduceLeDiff, Nat.reduceMul, reduceCtorEq, Code.c53, W_join, ci, e127, ek, elo, e2, eln]
  generalize hq2 : (b.drop (i + 1)).take k = q at hK
  have hqm : ∀ x ∈ q, 0 ≤ x ∧ x < 256 := fun x hx => byteL_mem hb x (by rw [← hq2] at hx; exact List.mem_of_mem_drop (List.mem_of_mem_take hx))
  have hql : q.length = k := by rw [← hq2]; simp; omega
  have qat : ∀ j : Nat, j < k → at' q (j : Int) = at' b ((i + 1 + j : Nat) : Int) := fun j hj => by rw [← hq2, at_take hj, at_drop]
  refine loop_inv (fun t ρ w' => w' = w ∧ ∃ j : Nat, ρ 49 = .int .i64 j ∧ j ≤ k ∧ t = k - j ∧ ρ 4 = .int .i64 (lenFold (q.take j))) k ⟨rfl, 0, by simp (disch := omega) only [wu64, wu32, wu8, fdiv_nn, EO, ↓EP, EQ, EM, ↓reduceIte, Int.reduceAdd, Int.reduceEq, Int.reduceLE, Int.reduceLT, Int.reduceMul, Int.reduceNeg, Int.reducePow, Int.reduceSub, Int.reduceToNat, Nat.reduceAdd, Nat.reduceEqDiff, Nat.reduceLT, Nat.reduceLeDiff, Nat.reduceMul, reduceCtorEq], by omega, by omega, by simp (disch := omega) only [wu64, wu32, wu8, fdiv_nn, EO, ↓EP, EQ, EM, ↓reduceIte, Int.reduceAdd, Int.reduceEq, Int.reduceLE, Int.reduceLT, Int.reduceMul, Int.reduceNeg, Int.reducePow, Int.reduceSub, Int.reduceToNat, Nat.reduceAdd, Nat.reduceEqDiff, Nat.reduceLT, Nat.reduceLeDiff, Nat.reduceMul, reduceCtorEq]; rfl⟩ ?_
  rintro t ρ w' hf ⟨rfl, j, h49, hj, rfl, h4⟩ N hN
  have r0 : ρ 0 = .slice (some ad) b.length c := by rw [hf 0 rfl]; simp (disch := omega) only [wu64, wu32, wu8, fdiv_nn, EO, ↓EP, EQ, EM, ↓reduceIte, Int.reduceAdd, Int.reduceEq, Int.reduceLE, Int.reduceLT, Int.reduceMul, Int.reduceNeg, Int.reducePow, Int.reduceSub, Int.reduceToNat, Nat.reduceAdd, Nat.reduceEqDiff, Nat.reduceLT, Nat.reduceLeDiff, Nat.reduceMul, reduceCtorEq]
  have r1 : ρ 1 = .int .i64 i := by rw [hf 1 rfl]; simp (disch := omega) only [wu64, wu32, wu8, fdiv_nn, EO, ↓EP, EQ, EM, ↓reduceIte, Int.reduceAdd, Int.reduceEq, Int.reduceLE, Int.reduceLT, Int.reduceMul, Int.reduceNeg, Int.reducePow, Int.reduceSub, Int.reduceToNat, Nat.reduceAdd, Nat.reduceEqDiff, Nat.reduceLT, Nat.reduceLeDiff, Nat.reduceMul, reduceCtorEq]
  have r5 : ρ 5 = .int .i64 ((i : Int) + 1) := by rw [hf 5 rfl]; simp (disch := omega) only [wu64, wu32, wu8, fdiv_nn, EO, ↓EP, EQ, EM, ↓reduceIte, Int.reduceAdd, Int.reduceEq, Int.reduceLE, Int.reduceLT, Int.reduceMul, Int.reduceNeg, Int.reducePow, Int.reduceSub, Int.reduceToNat, Nat.reduceAdd, Nat.reduceEqDiff, Nat.reduceLT, Nat.reduceLeDiff, Nat.reduceMul, reduceCtorEq]
  have r8 : ρ 8 = .int .i64 k := by rw [hf 8 rfl]; simp (disch := omega) only [wu64, wu32, wu8, fdiv_nn, EO, ↓EP, EQ, EM, ↓reduceIte, Int.reduceAdd, Int.reduceEq, Int.reduceLE, Int.reduceLT, Int.reduceMul, Int.reduceNeg, Int.reducePow, Int.reduceSub, Int.reduceToNat, Nat.reduceAdd, Nat.reduceEqDiff, Nat.reduceLT, Nat.reduceLeDiff, Nat.reduceMul, reduceCtorEq, e127, ek]
  have r47 : ∃ c2, ρ 47 = .slice (some ad2) k c2 := by
    refine ⟨c - (i + 1), ?_⟩
    rw [hf 47 rfl]; simp (disch := omega) only [wu64, wu32, wu8, fdiv_nn, EO, ↓EP, EQ, EM, ↓reduceIte, Int.reduceAdd, Int.reduceEq, Int.reduceLE, Int.reduceLT, Int.reduceMul, Int.reduceNeg, Int.reducePow, Int.reduceSub, Int.reduceToNat, Nat.reduceAdd, Nat.reduceEqDiff, Nat.reduceLT, Nat.reduceLeDiff, Nat.reduceMul, reduceCtorEq, elo, e2, eln]
  obtain ⟨c2, r47⟩ := r47
  have r48 : ρ 48 = .int .i64 k := by rw [hf 48 rfl]; simp (disch := omega) only [wu64, wu32, wu8, fdiv_nn, EO, ↓EP, EQ, EM, ↓reduceIte, Int.reduceAdd, Int.reduceEq, Int.reduceLE, Int.reduceLT, Int.reduceMul, Int.reduceNeg, Int.reducePow, Int.reduceSub, Int.reduceToNat, Nat.reduceAdd, Nat.reduceEqDiff, Nat.reduceLT, Nat.reduceLeDiff, Nat.reduceMul, reduceCtorEq, eln]
  clear hf
  by_cases hjk : (j : Int) < (k : Int)
  · have cj := cell2 j (by omega)
    rw [← qat j (by omega)] at cj
    have bj := hqm (at' q (j : Int)) (by
      rw [atN, List.getD_eq_getElem?_getD, List.getElem?_eq_getElem (by omega)]
      exact List.getElem_mem _)
    have hfb := fold_bd (l := q.take j) (fun x hx => hqm x (List.mem_of_mem_take hx))
    have hor := i64_or8' (n := lenFold (q.take j)) (c := at' q (j : Int)) hfb.1 (by omega) bj.1 bj.2
    have hst : lenFold (q.take (j + 1)) = if 16777217 < lenFold (q.take j) * 256 + at' q (j : Int) then 16777217 else lenFold (q.take j) * 256 + at' q (j : Int) := by
      rw [take_snoc (by omega), fold_snoc]; rfl
    simp (disch := omega) only [wu64, wu32, wu8, fdiv_nn, EO, ↓EP, EQ, EM, ↓reduceIte, Int.reduceAdd, Int.reduceEq, Int.reduceLE, Int.reduceLT, Int.reduceMul, Int.reduceNeg, Int.reducePow, Int.reduceSub, Int.reduceToNat, Nat.reduceAdd, Nat.reduceEqDiff, Nat.reduceLT, Nat.reduceLeDiff, Nat.reduceMul, reduceCtorEq, h49, h4, r47, r48, cj, hor]
    exact hN (k - (j + 1)) _ _ (by omega) ⟨rfl, j + 1, by simp (disch := omega) only [wu64, wu32, wu8, fdiv_nn, EO, ↓EP, EQ, EM, ↓reduceIte, Int.reduceAdd, Int.reduceEq, Int.reduceLE, Int.reduceLT, Int.reduceMul, Int.reduceNeg, Int.reducePow, Int.reduceSub, Int.reduceToNat, Nat.reduceAdd, Nat.reduceEqDiff, Nat.reduceLT, Nat.reduceLeDiff, Nat.reduceMul, reduceCtorEq, h49, Int.natCast_add], by omega, by omega, by simp (disch := omega) only [wu64, wu32, wu8, fdiv_nn, EO, ↓EP, EQ, EM, ↓reduceIte, Int.reduceAdd, Int.reduceEq, Int.reduceLE, Int.reduceLT, Int.reduceMul, Int.reduceNeg, Int.reducePow, Int.reduceSub, Int.reduceToNat, Nat.reduceAdd, Nat.reduceEqDiff, Nat.reduceLT, Nat.reduceLeDiff, Nat.reduceMul, reduceCtorEq, hst]⟩
  · have hjk' : j = k := by omega
    subst hjk'
    clear hN
    rw [List.take_of_length_le (by omega)] at h4
    have hfb := fold_bd hqm
    have c1 := cell (i + 1) (by omega)
    have eb : ((b.length - (i + 1 + j) : Nat) : Int) = (b.length : Int) - ((i : Int) + 1 + (j : Int)) := by omega
    rw [eb] at hK
    by_cases hz : at' b ((i + 1 : Nat) : Int) = 0
    · rw [if_pos (.inr hz)] at hK
      rw [hz] at c1
      simp (disch := omega) only [wu64, wu32, wu8, fdiv_nn, EO, ↓EP, EQ, EM, ↓reduceIte, Int.reduceAdd, Int.reduceEq, Int.reduceLE, Int.reduceLT, Int.reduceMul, Int.reduceNeg, Int.reducePow, Int.reduceSub, Int.reduceToNat, Nat.reduceAdd, Nat.reduceEqDiff, Nat.reduceLT, Nat.reduceLeDiff, Nat.reduceMul, reduceCtorEq, W_join, h49, h4, r0, r1, r5, r8, r48, elo, c1]
      exact hK
    by_cases hf128 : lenFold q < 128
    · rw [if_pos (.inl hf128)] at hK
      have b1 := hb (i + 1)
      simp (disch := omega) only [wu64, wu32, wu8, fdiv_nn, EO, ↓EP, EQ, EM, ↓reduceIte, Int.reduceAdd, Int.reduceEq, Int.reduceLE, Int.reduceLT, Int.reduceMul, Int.reduceNeg, Int.reducePow, Int.reduceSub, Int.reduceToNat, Nat.reduceAdd, Nat.reduceEqDiff, Nat.reduceLT, Nat.reduceLeDiff, Nat.reduceMul, reduceCtorEq, W_join, h49, h4, r0, r1, r5, r8, r48, elo, c1]
      exact hK
    rw [if_neg (fun h => by rcases h with h | h; exact hf128 h; exact hz h)] at hK
    have b1 := hb (i + 1)
    by_cases hlast : (b.length : Int) - ((i : Int) + 1 + (j : Int)) < lenFold q
    · rw [if_pos hlast] at hK
      simp (disch := omega) only [wu64, wu32, wu8, fdiv_nn, EO, ↓EP, EQ, EM, ↓reduceIte, Int.reduceAdd, Int.reduceEq, Int.reduceLE, Int.reduceLT, Int.reduceMul, Int.reduceNeg, Int.reducePow, Int.reduceSub, Int.reduceToNat, Nat.reduceAdd, Nat.reduceEqDiff, Nat.reduceLT, Nat.reduceLeDiff, Nat.reduceMul, reduceCtorEq, W_join, h49, h4, r0, r1, r5, r8, r48, elo, c1]
      exact hK
    · rw [if_neg hlast] at hK
      simp (disch := omega) only [wu64, wu32, wu8, fdiv_nn, EO, ↓EP, EQ, EM, ↓reduceIte, Int.reduceAdd, Int.reduceEq, Int.reduceLE, Int.reduceLT, Int.reduceMul, Int.reduceNeg, Int.reducePow, Int.reduceSub, Int.reduceToNat, Nat.reduceAdd, Nat.reduceEqDiff, Nat.reduceLT, Nat.reduceLeDiff, Nat.reduceMul, reduceCtorEq, W_join, h49, h4, r0, r1, r5, r8, r48, elo, c1]
      exact hK
end Go.Proofs.YtcflokckfjkdpaaDoor.Der
end
section
set_option linter.unusedVariables false
set_option linter.unusedSimpArgs false
namespace Go.Proofs.YtcflokckfjkdpaaDoor.Der
open Go Go.RowKit Go.Proofs Go.Proofs.YtcflokckfjkdpaaDoor.Eng Go.Proofs.YtcflokckfjkdpaaDoor.Code
set_option maxRecDepth 100000
attribute [local irreducible] callK S.W opsW scrW scrT
theorem readn {k : IntKind} {w : World} {v : Value} {l : List Int} (h : Sl k w v l) {n : Nat} (hn : l.length = n) : ∃ A c, v = .slice A n c ∧ n ≤ c ∧ Rd w A (nums k l) := by
  subst hn; obtain ⟨A, c, e, h1, h2, _⟩ := h.read; exact ⟨A, c, e, h1, h2⟩
theorem e_sl0 (neg : Bool) (n c m d : Nat) (b : Option Addr) (K : Value → Prop) : eqK .slice neg (.slice none n c) (.slice b m d) K = K (.bool (b.isNone ^^ neg)) := rfl
theorem e_sl1 (neg : Bool) (n c m d : Nat) (a : Addr) (K : Value → Prop) : eqK .slice neg (.slice (some a) n c) (.slice none m d) K = K (.bool neg) := rfl
theorem clone_vw {w : World} {v : Value} {l : List Int} (hv : Vw .u8 w v l) (hm : l.length ≤ 1073741824) (K : Value → World → Prop)
    (hK : ∀ v' w', Gw .u8 w w' v' l → K v' w') : callK Tryd.prog 46 [v] w K := by
  obtain ⟨A, c, rfl, hc, hr⟩ := hv
  refine call_of Tryd.func46 Code.h46 (by simp [Code.c46]) ?_
  cases A with
  | none =>
    have hl : l = [] := by
      rcases hr with h | ⟨p, e, _⟩
      · exact nums_isNil h
      · cases e
    subst hl
    simp (disch := omega) only [wu64, wu32, wu8, fdiv_nn, EO, ↓EP, EQ, EM, ↓reduceIte, Int.reduceAdd, Int.reduceEq, Int.reduceLE, Int.reduceLT, Int.reduceMul, Int.reduceNeg, Int.reducePow, Int.reduceSub, Int.reduceToNat, Nat.reduceAdd, Nat.reduceEqDiff, Nat.reduceLT, Nat.reduceLeDiff, Nat.reduceMul, reduceCtorEq, Code.c46, e_sl0, e_sl1, Option.isNone_none, Bool.xor_false]
    exact hK _ _ (Gw.nil .u8 w)
  | some ad =>
    simp (disch := omega) only [wu64, wu32, wu8, fdiv_nn, EO, ↓EP, EQ, EM, ↓reduceIte, Int.reduceAdd, Int.reduceEq, Int.reduceLE, Int.reduceLT, Int.reduceMul, Int.reduceNeg, Int.reducePow, Int.reduceSub, Int.reduceToNat, Nat.reduceAdd, Nat.reduceEqDiff, Nat.reduceLT, Nat.reduceLeDiff, Nat.reduceMul, reduceCtorEq, Code.c46, e_sl0, e_sl1, Option.isNone_none, Bool.xor_false]
    refine al_k (nums .u8 []) rfl fun w1 n1 => ?_
    have g1 : Gw .u8 w w1 (.slice (some ⟨w.heap.size, 0, none⟩) 0 0) [] := ⟨n1.sl, fun b e => by cases e; exact Nat.le_refl _, n1.fr nob⟩
    simp (disch := omega) only [wu64, wu32, wu8, fdiv_nn, EO, ↓EP, EQ, EM, ↓reduceIte, Int.reduceAdd, Int.reduceEq, Int.reduceLE, Int.reduceLT, Int.reduceMul, Int.reduceNeg, Int.reducePow, Int.reduceSub, Int.reduceToNat, Nat.reduceAdd, Nat.reduceEqDiff, Nat.reduceLT, Nat.reduceLeDiff, Nat.reduceMul, reduceCtorEq]
    refine app_num g1.sl rfl (hr.nb (n1.fr nob)) (by rw [List.length_nil]; omega) (by omega) fun v2 w2 a2 => ?_
    have g2 := g1.apd a2
    rw [List.nil_append] at g2
    simp (disch := omega) only [wu64, wu32, wu8, fdiv_nn, EO, ↓EP, EQ, EM, ↓reduceIte, Int.reduceAdd, Int.reduceEq, Int.reduceLE, Int.reduceLT, Int.reduceMul, Int.reduceNeg, Int.reducePow, Int.reduceSub, Int.reduceToNat, Nat.reduceAdd, Nat.reduceEqDiff, Nat.reduceLT, Nat.reduceLeDiff, Nat.reduceMul, reduceCtorEq]
    exact hK v2 w2 g2
structure Rws (w0 w : World) (X : Value) (vs : List Value) (ls : List (List Int)) : Prop where
  len : vs.length = ls.length
  each : ∀ (i : Nat) (v : Value) (l : List Int), vs[i]? = some v → ls[i]? = some l → Sl .u8 w v l
  up : ∀ (i : Nat) (v : Value) (b : Nat), vs[i]? = some v → blkOf v = some b → w0.heap.size ≤ b ∧ b < w.heap.size ∧ blkOf X ≠ some b
  apart : ∀ (i j : Nat) (u v : Value) (b : Nat), i ≠ j → vs[i]? = some u → vs[j]? = some v → blkOf u = some b → blkOf v ≠ some b
theorem Rws.nil (w0 w : World) (X : Value) : Rws w0 w X [] [] := ⟨rfl, fun i v l h => by simp at h, fun i v b h => by simp at h, fun i j u v b _ h => by simp at h⟩
theorem Rws.nb {w0 w w' : World} {X : Value} {vs : List Value} {ls : List (List Int)} (h : Rws w0 w X vs ls) (f : Fr w w' nob) : Rws w0 w' X vs ls :=
  ⟨h.len, fun i v l h1 h2 => Sl.nb (h.each i v l h1 h2) f, fun i v b h1 h2 => ⟨(h.up i v b h1 h2).1, Nat.lt_of_lt_of_le (h.up i v b h1 h2).2.1 f.size, (h.up i v b h1 h2).2.2⟩, h.apart⟩
theorem Rws.add {w0 w w' : World} {X v : Value} {vs : List Value} {ls : List (List Int)} {l : List Int} (h : Rws w0 w X vs ls) (hX : ∀ b, blkOf X = some b → b < w.heap.size) (f0 : Fr w0 w nob) (g : Gw .u8 w w' v l) : Rws w0 w' X (vs ++ [v]) (ls ++ [l]) := by
  have h' := h.nb g.fr
  have old : ∀ (i : Nat) (u : Value) (b : Nat), vs[i]? = some u → blkOf u = some b → b < w.heap.size := fun i u b h1 h2 => (h.up i u b h1 h2).2.1
  have spl : ∀ {i : Nat} {u : Value}, (vs ++ [v])[i]? = some u → (i < vs.length ∧ vs[i]? = some u) ∨ (i = vs.length ∧ u = v) := by
    intro i u hi
    by_cases hlt : i < vs.length
    · rw [List.getElem?_append_left hlt] at hi; exact .inl ⟨hlt, hi⟩
    · have hi' := (List.getElem?_eq_some_iff.1 hi).1
      simp at hi'
      have e : i = vs.length := by omega
      subst e
      simp at hi
      exact .inr ⟨rfl, hi.symm⟩
  refine ⟨by simp [h.len], fun i u l' h1 h2 => ?_, fun i u b h1 h2 => ?_, fun i j u u' b hne h1 h2 hb => ?_⟩
  · rcases spl h1 with ⟨hlt, h1⟩ | ⟨rfl, rfl⟩
    · rw [List.getElem?_append_left (by rw [← h.len]; exact hlt)] at h2
      exact h'.each i u l' h1 h2
    · rw [h.len] at h2
      simp at h2
      subst h2
      exact g.sl
  · rcases spl h1 with ⟨hlt, h1⟩ | ⟨rfl, rfl⟩
    · exact h'.up i u b h1 h2
    · have := g.up b h2
      have z := f0.size
      exact ⟨by omega, g.sl.lt h2, fun e => by have := hX b e; omega⟩
  · rcases spl h1 with ⟨hlt, k1⟩ | ⟨k1, e1⟩
    · rcases spl h2 with ⟨hlt2, k2⟩ | ⟨k2, e2⟩
      · exact h.apart i j u u' b hne k1 k2 hb
      · intro e
        rw [e2] at e
        have := g.up b e
        have := old i u b k1 hb
        omega
    · rw [e1] at hb
      rcases spl h2 with ⟨hlt2, k2⟩ | ⟨k2, e2⟩
      · intro e
        have := g.up b hb
        have := old j u' b k2 e
        omega
      · exact absurd (k1.trans k2.symm) hne
theorem Rws.row {w0 w w' : World} {X X' : Value} {n : Nat} {cs : List Value} {vs : List Value} {ls : List (List Int)} (h : Rws w0 w X vs ls) {sz : Nat} (a : Ag sz w X n cs X' w') : Rws w0 w' X' vs ls := by
  refine ⟨h.len, fun i v l h1 h2 => (h.each i v l h1 h2).fr a.fr fun b e => (h.up i v b h1 e).2.2, fun i v b h1 h2 => ?_, h.apart⟩
  obtain ⟨u1, u2, u3⟩ := h.up i v b h1 h2
  refine ⟨u1, Nat.lt_of_lt_of_le u2 a.fr.size, fun e => ?_⟩
  rcases a.where_ with hw | hw
  · exact u3 (hw ▸ e)
  · have := hw b e; omega
def tcells (t : Tlv) (d r : Value) : List Value := [.int .i64 t.cls, .int .i64 t.tag, .bool t.cons, d, r]
def tflat (ts : List Tlv) : List (List Int) := ts.flatMap fun t => [t.data, t.raw]
def cellsT : List Tlv → List Value → List Value
  | t :: ts, d :: r :: vs => tcells t d r ++ cellsT ts vs
  | _, _ => []
theorem tflat_len (ts : List Tlv) : (tflat ts).length = 2 * ts.length := by
  induction ts with
  | nil => rfl
  | cons t ts ih => simp only [tflat, List.flatMap_cons, List.length_append, List.length_cons, List.length_nil] at *; omega
theorem tflat_add (ts : List Tlv) (t : Tlv) : tflat (ts ++ [t]) = tflat ts ++ [t.data, t.raw] := by simp [tflat]
theorem cellsT_len : ∀ (ts : List Tlv) (vs : List Value), vs.length = 2 * ts.length → (cellsT ts vs).length = ts.length * 5
  | [], vs, h => by
    have : vs = [] := List.length_eq_zero_iff.1 (by simpa using h)
    subst this; rfl
  | t :: ts, d :: r :: vs, h => by
    simp only [cellsT, List.length_append, tcells, List.length_cons, List.length_nil]
    rw [cellsT_len ts vs (by simp at h; omega)]; omega
  | t :: ts, [], h => by simp at h
  | t :: ts, [d], h => by simp at h; omega
theorem cellsT_add : ∀ (ts : List Tlv) (vs : List Value) (t : Tlv) (d r : Value), vs.length = 2 * ts.length → cellsT (ts ++ [t]) (vs ++ [d, r]) = cellsT ts vs ++ tcells t d r
  | [], vs, t, d, r, h => by
    have : vs = [] := List.length_eq_zero_iff.1 (by simpa using h)
    subst this; simp [cellsT]
  | t :: ts, d :: r :: vs, t', d', r', h => by
    simp only [cellsT, List.cons_append]
    rw [cellsT_add ts vs t' d' r' (by simp at h; omega), List.append_assoc]
  | t :: ts, [], _, _, _, h => by simp at h
  | t :: ts, [d], _, _, _, h => by simp at h; omega
structure Tls (w0 w : World) (X : Value) (ts : List Tlv) (vs : List Value) : Prop where
  g : Gg 5 w0 w X ts.length (cellsT ts vs)
  r : Rws w0 w X vs (tflat ts)
theorem Tls.nil (w : World) : Tls w w (.slice none 0 0) [] [] := ⟨Gg.nil 5 w, Rws.nil w w _⟩
theorem Tls.nb {w0 w w' : World} {X : Value} {ts : List Tlv} {vs : List Value} (h : Tls w0 w X ts vs) (f : Fr w w' nob) : Tls w0 w' X ts vs := ⟨h.g.step f, h.r.nb f⟩
theorem Tls.vlen {w0 w : World} {X : Value} {ts : List Tlv} {vs : List Value} (h : Tls w0 w X ts vs) : vs.length = 2 * ts.length := by rw [h.r.len, tflat_len]
end Go.Proofs.YtcflokckfjkdpaaDoor.Der
end
section
set_option linter.unusedVariables false
set_option linter.unusedSimpArgs false
namespace Go.Proofs.YtcflokckfjkdpaaDoor.Der
open Go Go.RowKit Go.Proofs Go.Proofs.YtcflokckfjkdpaaDoor.Eng Go.Proofs.YtcflokckfjkdpaaDoor.Code
set_option maxRecDepth 100000
attribute [local irreducible] callK S.W opsW scrW scrT
theorem tagGo_ok : ∀ (l : List Int) (f : Bool) (n : Int) (i : Nat), (tagGo l f n i).2.2.1 = 0 → i < (tagGo l f n i).2.1 ∧ (tagGo l f n i).2.1 ≤ i + l.length
  | [], f, n, i, h => by simp [tagGo] at h
  | x :: r, f, n, i, h => by
    rw [tagGo] at h ⊢
    split at h
    · simp at h
    · rename_i h1
      rw [if_neg h1]
      split at h
      · rename_i h2
        rw [if_pos h2]
        simp
      · rename_i h2
        rw [if_neg h2]
        have := tagGo_ok r false _ (i + 1) h
        simp only [List.length_cons]
        omega
theorem tag_ok {b : List Int} {p : Nat} (hp : p < b.length) (h : (tagR b p).2.2.1 = 0) : p < (tagR b p).2.1 ∧ (tagR b p).2.1 ≤ b.length := by
  unfold tagR at h ⊢
  split at h
  · rename_i h1
    rw [if_pos h1]
    have := tagGo_ok _ _ _ _ h
    simp at this
    omega
  · rename_i h1
    rw [if_neg h1]
    split at h
    · simp at h
    · rename_i h2
      rw [if_neg h2]
      simp; omega
theorem len_ok {b : List Int} {i : Nat} (hb : ByteL b) (h : (lenR b i).2.2.1 = 0) : i < (lenR b i).2.1 ∧ 0 ≤ (lenR b i).1 ∧ (lenR b i).2.1 + (lenR b i).1.toNat ≤ b.length := by
  unfold lenR at h ⊢
  have bi := hb i
  split at h
  · simp at h
  · rename_i h1
    rw [if_neg h1]
    split at h
    · rename_i h2
      rw [if_pos h2]
      split at h
      · simp at h
      · rename_i h3
        rw [if_neg h3]
        simp only
        omega
    · rename_i h2
      rw [if_neg h2]
      split at h
      · simp at h
      · rename_i h3
        rw [if_neg h3]
        split at h
        · simp at h
        · rename_i h4
          rw [if_neg h4]
          split at h
          · simp at h
          · rename_i h5
            rw [if_neg h5]
            split at h
            · simp at h
            · rename_i h6
              rw [if_neg h6]
              have hf := fold_bd (l := (b.drop (i + 1)).take (at' b i - 128).toNat) (fun x hx => byteL_mem hb x (List.mem_of_mem_drop (List.mem_of_mem_take hx)))
              simp only
              omega
theorem fillTlv (a b : Int) (c : Bool) (A B : Option Addr) (n m n' m' : Nat) : fillL [(0, 1), (1, 1), (2, 1), (3, 1), (4, 1)] #[(.int .i64 0), (.int .i64 0), (.bool false), (.slice none 0 0), (.slice none 0 0)] [(0, .int .i64 a), (1, .int .i64 b), (2, .bool c), (3, .slice A n m), (4, .slice B n' m')] = some (tcells ⟨a, b, c, [], []⟩ (.slice A n m) (.slice B n' m')).toArray := by kernel_rfl
theorem bslTlv {e : Nat} {z : List Value} (hz : z.length = 5) {cs : List Value} (hc : cs.length = 5) {w : World} {K : Value → World → Prop} (hK : ∀ w', New w w' cs → K (.slice (some ⟨w.heap.size, 0, none⟩) 1 1) w') : bslT e 5 1 z.toArray [(0, .agg cs.toArray)] w K .mk := by
  match z, hz with
  | [z0, z1, z2, z3, z4], _ =>
    match cs, hc with
    | [a, b, c, d, r], _ => exact ⟨#[a, b, c, d, r], by kernel_rfl, hK _ (new_of rfl rfl)⟩
theorem tcells_one (t : Tlv) (A B : Option Addr) (n m n' m' : Nat) : ∀ u ∈ tcells t (.slice A n m) (.slice B n' m'), u.oneCell' = true := by
  intro u hu
  simp only [tcells, List.mem_cons, List.not_mem_nil, or_false] at hu
  rcases hu with rfl | rfl | rfl | rfl | rfl <;> rfl
theorem Gg.lt {sz : Nat} {w0 w : World} {v : Value} {n : Nat} {cs : List Value} (g : Gg sz w0 w v n cs) : ∀ b, blkOf v = some b → b < w.heap.size := fun b e => g.sl.lt e
theorem clone_n {w : World} {A : Option Addr} {n c : Nat} {l : List Int} (hn : l.length = n) (hc : n ≤ c) (hr : Rd w A (nums .u8 l)) (hm : n ≤ 1073741824) (K : Value → World → Prop)
    (hK : ∀ A' c' w', Gw .u8 w w' (.slice A' n c') l → K (.slice A' n c') w') : callK Tryd.prog 46 [.slice A n c] w K := by
  refine clone_vw (Vw.of hn hc hr) (by omega) K fun v' w' g => ?_
  have h := g.sl.read
  obtain ⟨A', c', e, _⟩ := h
  rw [hn] at e
  subst e
  exact hK _ _ _ g
theorem Tls.add {w0 w w1 w2 w3 w4 : World} {X X' : Value} {ts : List Tlv} {vs : List Value} {t : Tlv} {d r : Value} (h : Tls w0 w X ts vs) (gd : Gw .u8 w w1 d t.data) (gr : Gw .u8 w1 w2 r t.raw) (f : Fr w2 w3 nob) (a : Ag 5 w3 X (ts.length + 1) (cellsT ts vs ++ tcells t d r) X' w4) : Tls w0 w4 X' (ts ++ [t]) (vs ++ [d, r]) := by
  have hX : ∀ b, blkOf X = some b → b < w.heap.size := fun b e => h.g.sl.lt e
  have r1 := h.r.add hX h.g.fr gd
  have r2 := r1.add (fun b e => Nat.lt_of_lt_of_le (hX b e) gd.fr.size) (h.g.fr.nb gd.fr) gr
  have r3 := (r2.nb f).row a
  refine ⟨?_, ?_⟩
  · rw [List.length_append, cellsT_add ts vs t d r h.vlen]
    exact (((h.g.step gd.fr).step gr.fr).step f).apd a
  · rw [tflat_add]
    simpa using r3
def tup3 (v : Value) (e : Int) (n : Nat) : Value := .tuple #[v, .int .i64 e, .int .i64 n]
set_option maxHeartbeats 2000000 in
theorem split_vw {w : World} {v : Value} {b : List Int} (hv : Vw .u8 w v b) (hb : ByteL b) (h63 : b.length ≤ 9223372036854775807) (K : Value → World → Prop)
    (hK : ∀ X vs w', Tls w w' X (splitR b).1 vs → K (tup3 X (splitR b).2.1 (splitR b).2.2) w') : callK Tryd.prog 25 [v] w K := by
  obtain ⟨A, c, rfl, hc, hr⟩ := hv
  refine call_of Tryd.func25 Code.h25 (by simp [Code.c25]) ?_
  unfold splitR at hK
  by_cases hm : (16777216 : Int) < (b.length : Int)
  · rw [if_pos (by omega)] at hK
    simp (disch := omega) only [wu64, wu32, wu8, fdiv_nn, EO, ↓EP, EQ, EM, ↓reduceIte, Int.reduceAdd, Int.reduceEq, Int.reduceLE, Int.reduceLT, Int.reduceMul, Int.reduceNeg, Int.reducePow, Int.reduceSub, Int.reduceToNat, Nat.reduceAdd, Nat.reduceEqDiff, Nat.reduceLT, Nat.reduceLeDiff, Nat.reduceMul, reduceCtorEq, Code.c25]
    exact hK _ [] _ (Tls.nil w)
  rw [if_neg (by omega)] at hK
  simp (disch := omega) only [wu64, wu32, wu8, fdiv_nn, EO, ↓EP, EQ, EM, ↓reduceIte, Int.reduceAdd, Int.reduceEq, Int.reduceLE, Int.reduceLT, Int.reduceMul, Int.reduceNeg, Int.reducePow, Int.reduceSub, Int.reduceToNat, Nat.reduceAdd, Nat.reduceEqDiff, Nat.reduceLT, Nat.reduceLeDiff, Nat.reduceMul, reduceCtorEq, Code.c25]
  refine loop_inv (fun t ρ w' => ∃ (p f : Nat) (X : Value) (ts : List Tlv) (vs : List Value), ρ 5 = .int .i64 p ∧ ρ 2 = X ∧ p ≤ b.length ∧ t = b.length - p ∧ b.length - p < f ∧ ts.length ≤ 65536 ∧ Tls w w' X ts vs ∧ splitGo b f p ts = splitGo b (b.length + 1) 0 []) _ ⟨0, b.length + 1, .slice none 0 0, [], [], by simp (disch := omega) only [wu64, wu32, wu8, fdiv_nn, EO, ↓EP, EQ, EM, ↓reduceIte, Int.reduceAdd, Int.reduceEq, Int.reduceLE, Int.reduceLT, Int.reduceMul, Int.reduceNeg, Int.reducePow, Int.reduceSub, Int.reduceToNat, Nat.reduceAdd, Nat.reduceEqDiff, Nat.reduceLT, Nat.reduceLeDiff, Nat.reduceMul, reduceCtorEq], by simp (disch := omega) only [wu64, wu32, wu8, fdiv_nn, EO, ↓EP, EQ, EM, ↓reduceIte, Int.reduceAdd, Int.reduceEq, Int.reduceLE, Int.reduceLT, Int.reduceMul, Int.reduceNeg, Int.reducePow, Int.reduceSub, Int.reduceToNat, Nat.reduceAdd, Nat.reduceEqDiff, Nat.reduceLT, Nat.reduceLeDiff, Nat.reduceMul, reduceCtorEq], by omega, rfl, by omega, by simp, Tls.nil w, rfl⟩ ?_
  rintro t ρ w1 hf ⟨p, f, X, ts, vs, h5, h2, hp, rfl, hfu, hts, T, hgo⟩ N hN
  have r0 : ρ 0 = .slice A b.length c := by rw [hf 0 rfl]; simp (disch := omega) only [wu64, wu32, wu8, fdiv_nn, EO, ↓EP, EQ, EM, ↓reduceIte, Int.reduceAdd, Int.reduceEq, Int.reduceLE, Int.reduceLT, Int.reduceMul, Int.reduceNeg, Int.reducePow, Int.reduceSub, Int.reduceToNat, Nat.reduceAdd, Nat.reduceEqDiff, Nat.reduceLT, Nat.reduceLeDiff, Nat.reduceMul, reduceCtorEq]
  clear hf
  rw [← hgo] at hK hN
  obtain ⟨f, rfl⟩ : ∃ g, f = g + 1 := ⟨f - 1, by omega⟩
  obtain ⟨XA, xc, rfl, hxc, _⟩ := T.g.sl.read
  by_cases hpl : (p : Int) < (b.length : Int)
  · rw [splitGo, if_neg (by omega)] at hK hN
    by_cases h64 : (ts.length : Int) = 65536
    · rw [if_pos (by omega)] at hK
      simp (disch := omega) only [wu64, wu32, wu8, fdiv_nn, EO, ↓EP, EQ, EM, ↓reduceIte, Int.reduceAdd, Int.reduceEq, Int.reduceLE, Int.reduceLT, Int.reduceMul, Int.reduceNeg, Int.reducePow, Int.reduceSub, Int.reduceToNat, Nat.reduceAdd, Nat.reduceEqDiff, Nat.reduceLT, Nat.reduceLeDiff, Nat.reduceMul, reduceCtorEq, h5, h2, r0, h64]
      exact hK _ [] _ ⟨⟨Sg.nil 5 w1, fun b e => (by cases e), T.g.fr⟩, Rws.nil w w1 _⟩
    rw [if_neg (by omega)] at hK hN
    simp (disch := omega) only [wu64, wu32, wu8, fdiv_nn, EO, ↓EP, EQ, EM, ↓reduceIte, Int.reduceAdd, Int.reduceEq, Int.reduceLE, Int.reduceLT, Int.reduceMul, Int.reduceNeg, Int.reducePow, Int.reduceSub, Int.reduceToNat, Nat.reduceAdd, Nat.reduceEqDiff, Nat.reduceLT, Nat.reduceLeDiff, Nat.reduceMul, reduceCtorEq, h5, h2, r0]
    have hr1 := hr.nb T.g.fr
    refine tag_vw (Vw.of rfl hc hr1) hb (by omega) (by omega) _ ?_
    simp only [tup4]
    have tok := tag_ok (b := b) (p := p) (by omega)
    generalize tagR b p = tg at *
    obtain ⟨tt, ti, te, ta⟩ := tg
    simp only at *
    by_cases hte : te = 0
    rotate_left
    · rw [if_pos hte] at hK
      have hte' : (te = 0) = False := eq_false hte
      simp (disch := omega) only [wu64, wu32, wu8, fdiv_nn, EO, ↓EP, EQ, EM, ↓reduceIte, Int.reduceAdd, Int.reduceEq, Int.reduceLE, Int.reduceLT, Int.reduceMul, Int.reduceNeg, Int.reducePow, Int.reduceSub, Int.reduceToNat, Nat.reduceAdd, Nat.reduceEqDiff, Nat.reduceLT, Nat.reduceLeDiff, Nat.reduceMul, reduceCtorEq, h5, r0, hte']
      exact hK _ [] _ ⟨⟨Sg.nil 5 w1, fun b e => (by cases e), T.g.fr⟩, Rws.nil w w1 _⟩
    rw [if_neg (by simpa using hte)] at hK hN
    obtain ⟨tok1, tok2⟩ := tok hte
    simp (disch := omega) only [wu64, wu32, wu8, fdiv_nn, EO, ↓EP, EQ, EM, ↓reduceIte, Int.reduceAdd, Int.reduceEq, Int.reduceLE, Int.reduceLT, Int.reduceMul, Int.reduceNeg, Int.reducePow, Int.reduceSub, Int.reduceToNat, Nat.reduceAdd, Nat.reduceEqDiff, Nat.reduceLT, Nat.reduceLeDiff, Nat.reduceMul, reduceCtorEq, h5, r0, hte]
    refine length_vw (Vw.of rfl hc hr1) hb tok2 (by omega) _ ?_
    simp only [tup4]
    have lok := len_ok (b := b) (i := ti) hb
    generalize lenR b ti = lg at *
    obtain ⟨ln, lj, le, la⟩ := lg
    simp only at *
    by_cases hle : le = 0
    rotate_left
    · rw [if_pos hle] at hK
      have hle' : (le = 0) = False := eq_false hle
      simp (disch := omega) only [wu64, wu32, wu8, fdiv_nn, EO, ↓EP, EQ, EM, ↓reduceIte, Int.reduceAdd, Int.reduceEq, Int.reduceLE, Int.reduceLT, Int.reduceMul, Int.reduceNeg, Int.reducePow, Int.reduceSub, Int.reduceToNat, Nat.reduceAdd, Nat.reduceEqDiff, Nat.reduceLT, Nat.reduceLeDiff, Nat.reduceMul, reduceCtorEq, h5, r0, hle']
      exact hK _ [] _ ⟨⟨Sg.nil 5 w1, fun b e => (by cases e), T.g.fr⟩, Rws.nil w w1 _⟩
    rw [if_neg (by simpa using hle)] at hK hN
    obtain ⟨lok1, lok2, lok3⟩ := lok hle
    obtain ⟨ln, rfl⟩ := Int.eq_ofNat_of_zero_le lok2
    rw [Int.toNat_natCast] at lok3 hK hN
    obtain ⟨ad, rfl, _, _⟩ := hr.get (by rw [nums_length]; omega)
    have cellf : ∀ w', Fr w w' nob → w'.cell? (ad.add p) = some (.int .u8 (at' b (p : Int))) := fun w' f => by
      obtain ⟨ad', e', _, hcl⟩ := (hr.nb f).get (by rw [nums_length]; omega)
      cases e'
      exact hcl.numN (by omega)
    have cp := cellf w1 T.g.fr
    have bp := hb p
    have e32 := d8_and32 bp
    have ee : ((lj : Int) + (ln : Int)).toNat - lj = ln := by omega
    have ee2 : ((lj : Int) + (ln : Int)).toNat - p = lj + ln - p := by omega
    have hbit : at' b (p : Int) / 32 % 2 = 0 ∨ at' b (p : Int) / 32 % 2 = 1 := by omega
    clear e32
    rcases hbit with hbit | hbit
    · have e32 : bits .and .u8 (at' b (p : Int)) 32 = 0 := by rw [d8_and32 bp]; omega
      have hcons : decide (at' b (p : Int) / 32 % 2 = 1) = false := decide_eq_false (by omega)
      rw [hcons] at hK hN
      simp (disch := omega) only [wu64, wu32, wu8, fdiv_nn, EO, ↓EP, EQ, EM, ↓reduceIte, Int.reduceAdd, Int.reduceEq, Int.reduceLE, Int.reduceLT, Int.reduceMul, Int.reduceNeg, Int.reducePow, Int.reduceSub, Int.reduceToNat, Nat.reduceAdd, Nat.reduceEqDiff, Nat.reduceLT, Nat.reduceLeDiff, Nat.reduceMul, reduceCtorEq, h5, h2, r0, hle, cp, e32, ee, ee2]
      intro m1
      have f1 := T.g.fr.nb (Fr.drewN w1 (1 + m1) nob)
      refine clone_n (l := (b.drop lj).take ln) (by simp; omega) (by omega) (((hr.nb f1).subA c lj hc).take ln) (by omega) _ fun dA dc w2 g2 => ?_
      have f2 := f1.nb g2.fr
      have c2 := cellf w2 f2
      simp (disch := omega) only [wu64, wu32, wu8, fdiv_nn, EO, ↓EP, EQ, EM, ↓reduceIte, Int.reduceAdd, Int.reduceEq, Int.reduceLE, Int.reduceLT, Int.reduceMul, Int.reduceNeg, Int.reducePow, Int.reduceSub, Int.reduceToNat, Nat.reduceAdd, Nat.reduceEqDiff, Nat.reduceLT, Nat.reduceLeDiff, Nat.reduceMul, reduceCtorEq, h5, h2, r0, hle, c2, e32, ee, ee2]
      intro m2
      have f2' := f2.nb (Fr.drewN w2 m2 nob)
      refine clone_n (l := (b.drop p).take (lj + ln - p)) (by simp; omega) (by omega) (((hr.nb f2').subA c p hc).take (lj + ln - p)) (by omega) _ fun rA rc w3 g3 => ?_
      have f3 := f2'.nb g3.fr
      have c3 := cellf w3 f3
      simp (disch := omega) only [wu64, wu32, wu8, fdiv_nn, EO, ↓EP, EQ, EM, ↓reduceIte, Int.reduceAdd, Int.reduceEq, Int.reduceLE, Int.reduceLT, Int.reduceMul, Int.reduceNeg, Int.reducePow, Int.reduceSub, Int.reduceToNat, Nat.reduceAdd, Nat.reduceEqDiff, Nat.reduceLT, Nat.reduceLeDiff, Nat.reduceMul, reduceCtorEq, h5, h2, r0, hle, c3]
      refine ⟨_, fillTlv _ _ _ _ _ _ _ _ _, ?_⟩
      simp (disch := omega) only [wu64, wu32, wu8, fdiv_nn, EO, ↓EP, EQ, EM, ↓reduceIte, Int.reduceAdd, Int.reduceEq, Int.reduceLE, Int.reduceLT, Int.reduceMul, Int.reduceNeg, Int.reducePow, Int.reduceSub, Int.reduceToNat, Nat.reduceAdd, Nat.reduceEqDiff, Nat.reduceLT, Nat.reduceLeDiff, Nat.reduceMul, reduceCtorEq, h5, h2, r0, hle, c3]
      intro m3
      refine bslTlv rfl rfl fun w4 n4 => ?_
      have f34 := (Fr.drewN w3 m3 nob).nb (n4.fr nob)
      have c4 := cellf w4 (f3.nb f34)
      simp (disch := omega) only [wu64, wu32, wu8, fdiv_nn, EO, ↓EP, EQ, EM, ↓reduceIte, Int.reduceAdd, Int.reduceEq, Int.reduceLE, Int.reduceLT, Int.reduceMul, Int.reduceNeg, Int.reducePow, Int.reduceSub, Int.reduceToNat, Nat.reduceAdd, Nat.reduceEqDiff, Nat.reduceLT, Nat.reduceLeDiff, Nat.reduceMul, reduceCtorEq, h5, h2, r0, hle, c4]
      intro m4
      have T5 : Tls w (w4.drewN m4) _ ts vs := ((((T.nb (Fr.drewN w1 (1 + m1) nob)).nb g2.fr).nb (Fr.drewN w2 m2 nob)).nb g3.fr).nb (f34.nb (Fr.drewN w4 m4 nob))
      refine app_g T5.g.sl rfl rfl (tcells_one _ _ _ _ _ _ _) (n4.rdv.nb (Fr.drewN w4 m4 nob)) (by omega) (by omega) (by omega) fun X' w5 a5 => ?_
      have f5 := (T5.g.apd a5).fr
      have c5 := cellf w5 f5
      have T6 := Tls.add (t := ⟨at' b (p : Int) / 64, tt, false, (b.drop lj).take ln, (b.drop p).take (lj + ln - p)⟩) (T.nb (Fr.drewN w1 (1 + m1) nob)) (g2.step (Fr.drewN w2 m2 nob)) g3 (f34.nb (Fr.drewN w4 m4 nob)) a5
      simp (disch := omega) only [wu64, wu32, wu8, fdiv_nn, EO, ↓EP, EQ, EM, ↓reduceIte, Int.reduceAdd, Int.reduceEq, Int.reduceLE, Int.reduceLT, Int.reduceMul, Int.reduceNeg, Int.reducePow, Int.reduceSub, Int.reduceToNat, Nat.reduceAdd, Nat.reduceEqDiff, Nat.reduceLT, Nat.reduceLeDiff, Nat.reduceMul, reduceCtorEq, h5, r0, hle, c5]
      intro m5
      refine hN (b.length - (lj + ln)) _ _ (by omega) ⟨lj + ln, f, X', _, _, by simp (disch := omega) only [wu64, wu32, wu8, fdiv_nn, EO, ↓EP, EQ, EM, ↓reduceIte, Int.reduceAdd, Int.reduceEq, Int.reduceLE, Int.reduceLT, Int.reduceMul, Int.reduceNeg, Int.reducePow, Int.reduceSub, Int.reduceToNat, Nat.reduceAdd, Nat.reduceEqDiff, Nat.reduceLT, Nat.reduceLeDiff, Nat.reduceMul, reduceCtorEq, Int.natCast_add], by simp (disch := omega) only [wu64, wu32, wu8, fdiv_nn, EO, ↓EP, EQ, EM, ↓reduceIte, Int.reduceAdd, Int.reduceEq, Int.reduceLE, Int.reduceLT, Int.reduceMul, Int.reduceNeg, Int.reducePow, Int.reduceSub, Int.reduceToNat, Nat.reduceAdd, Nat.reduceEqDiff, Nat.reduceLT, Nat.reduceLeDiff, Nat.reduceMul, reduceCtorEq], by omega, rfl, by omega, by simp; omega, T6.nb (Fr.drewN w5 m5 nob), rfl⟩
    · have e32 : bits .and .u8 (at' b (p : Int)) 32 = 32 := by rw [d8_and32 bp]; omega
      have hcons : decide (at' b (p : Int) / 32 % 2 = 1) = true := decide_eq_true hbit
      rw [hcons] at hK hN
      simp (disch := omega) only [wu64, wu32, wu8, fdiv_nn, EO, ↓EP, EQ, EM, ↓reduceIte, Int.reduceAdd, Int.reduceEq, Int.reduceLE, Int.reduceLT, Int.reduceMul, Int.reduceNeg, Int.reducePow, Int.reduceSub, Int.reduceToNat, Nat.reduceAdd, Nat.reduceEqDiff, Nat.reduceLT, Nat.reduceLeDiff, Nat.reduceMul, reduceCtorEq, h5, h2, r0, hle, cp, e32, ee, ee2]
      intro m1
      have f1 := T.g.fr.nb (Fr.drewN w1 (1 + m1) nob)
      refine clone_n (l := (b.drop lj).take ln) (by simp; omega) (by omega) (((hr.nb f1).subA c lj hc).take ln) (by omega) _ fun dA dc w2 g2 => ?_
      have f2 := f1.nb g2.fr
      have c2 := cellf w2 f2
      simp (disch := omega) only [wu64, wu32, wu8, fdiv_nn, EO, ↓EP, EQ, EM, ↓reduceIte, Int.reduceAdd, Int.reduceEq, Int.reduceLE, Int.reduceLT, Int.reduceMul, Int.reduceNeg, Int.reducePow, Int.reduceSub, Int.reduceToNat, Nat.reduceAdd, Nat.reduceEqDiff, Nat.reduceLT, Nat.reduceLeDiff, Nat.reduceMul, reduceCtorEq, h5, h2, r0, hle, c2, e32, ee, ee2]
      intro m2
      have f2' := f2.nb (Fr.drewN w2 m2 nob)
      refine clone_n (l := (b.drop p).take (lj + ln - p)) (by simp; omega) (by omega) (((hr.nb f2').subA c p hc).take (lj + ln - p)) (by omega) _ fun rA rc w3 g3 => ?_
      have f3 := f2'.nb g3.fr
      have c3 := cellf w3 f3
      simp (disch := omega) only [wu64, wu32, wu8, fdiv_nn, EO, ↓EP, EQ, EM, ↓reduceIte, Int.reduceAdd, Int.reduceEq, Int.reduceLE, Int.reduceLT, Int.reduceMul, Int.reduceNeg, Int.reducePow, Int.reduceSub, Int.reduceToNat, Nat.reduceAdd, Nat.reduceEqDiff, Nat.reduceLT, Nat.reduceLeDiff, Nat.reduceMul, reduceCtorEq, h5, h2, r0, hle, c3]
      refine ⟨_, fillTlv _ _ _ _ _ _ _ _ _, ?_⟩
      simp (disch := omega) only [wu64, wu32, wu8, fdiv_nn, EO, ↓EP, EQ, EM, ↓reduceIte, Int.reduceAdd, Int.reduceEq, Int.reduceLE, Int.reduceLT, Int.reduceMul, Int.reduceNeg, Int.reducePow, Int.reduceSub, Int.reduceToNat, Nat.reduceAdd, Nat.reduceEqDiff, Nat.reduceLT, Nat.reduceLeDiff, Nat.reduceMul, reduceCtorEq, h5, h2, r0, hle, c3]
      intro m3
      refine bslTlv rfl rfl fun w4 n4 => ?_
      have f34 := (Fr.drewN w3 m3 nob).nb (n4.fr nob)
      have c4 := cellf w4 (f3.nb f34)
      simp (disch := omega) only [wu64, wu32, wu8, fdiv_nn, EO, ↓EP, EQ, EM, ↓reduceIte, Int.reduceAdd, Int.reduceEq, Int.reduceLE, Int.reduceLT, Int.reduceMul, Int.reduceNeg, Int.reducePow, Int.reduceSub, Int.reduceToNat, Nat.reduceAdd, Nat.reduceEqDiff, Nat.reduceLT, Nat.reduceLeDiff, Nat.reduceMul, reduceCtorEq, h5, h2, r0, hle, c4]
      intro m4
      have T5 : Tls w (w4.drewN m4) _ ts vs := ((((T.nb (Fr.drewN w1 (1 + m1) nob)).nb g2.fr).nb (Fr.drewN w2 m2 nob)).nb g3.fr).nb (f34.nb (Fr.drewN w4 m4 nob))
      refine app_g T5.g.sl rfl rfl (tcells_one _ _ _ _ _ _ _) (n4.rdv.nb (Fr.drewN w4 m4 nob)) (by omega) (by omega) (by omega) fun X' w5 a5 => ?_
      have f5 := (T5.g.apd a5).fr
      have c5 := cellf w5 f5
      have T6 := Tls.add (t := ⟨at' b (p : Int) / 64, tt, true, (b.drop lj).take ln, (b.drop p).take (lj + ln - p)⟩) (T.nb (Fr.drewN w1 (1 + m1) nob)) (g2.step (Fr.drewN w2 m2 nob)) g3 (f34.nb (Fr.drewN w4 m4 nob)) a5
      simp (disch := omega) only [wu64, wu32, wu8, fdiv_nn, EO, ↓EP, EQ, EM, ↓reduceIte, Int.reduceAdd, Int.reduceEq, Int.reduceLE, Int.reduceLT, Int.reduceMul, Int.reduceNeg, Int.reducePow, Int.reduceSub, Int.reduceToNat, Nat.reduceAdd, Nat.reduceEqDiff, Nat.reduceLT, Nat.reduceLeDiff, Nat.reduceMul, reduceCtorEq, h5, r0, hle, c5]
      intro m5
      refine hN (b.length - (lj + ln)) _ _ (by omega) ⟨lj + ln, f, X', _, _, by simp (disch := omega) only [wu64, wu32, wu8, fdiv_nn, EO, ↓EP, EQ, EM, ↓reduceIte, Int.reduceAdd, Int.reduceEq, Int.reduceLE, Int.reduceLT, Int.reduceMul, Int.reduceNeg, Int.reducePow, Int.reduceSub, Int.reduceToNat, Nat.reduceAdd, Nat.reduceEqDiff, Nat.reduceLT, Nat.reduceLeDiff, Nat.reduceMul, reduceCtorEq, Int.natCast_add], by simp (disch := omega) only [wu64, wu32, wu8, fdiv_nn, EO, ↓EP, EQ, EM, ↓reduceIte, Int.reduceAdd, Int.reduceEq, Int.reduceLE, Int.reduceLT, Int.reduceMul, Int.reduceNeg, Int.reducePow, Int.reduceSub, Int.reduceToNat, Nat.reduceAdd, Nat.reduceEqDiff, Nat.reduceLT, Nat.reduceLeDiff, Nat.reduceMul, reduceCtorEq], by omega, rfl, by omega, by simp; omega, T6.nb (Fr.drewN w5 m5 nob), rfl⟩
  · have hpl' : p = b.length := by omega
    subst hpl'
    rw [splitGo, if_pos (Nat.le_refl _)] at hK
    simp (disch := omega) only [wu64, wu32, wu8, fdiv_nn, EO, ↓EP, EQ, EM, ↓reduceIte, Int.reduceAdd, Int.reduceEq, Int.reduceLE, Int.reduceLT, Int.reduceMul, Int.reduceNeg, Int.reducePow, Int.reduceSub, Int.reduceToNat, Nat.reduceAdd, Nat.reduceEqDiff, Nat.reduceLT, Nat.reduceLeDiff, Nat.reduceMul, reduceCtorEq, h5, h2, r0]
    exact hK _ vs _ T
end Go.Proofs.YtcflokckfjkdpaaDoor.Der
end
section
set_option linter.unusedVariables false
set_option linter.unusedSimpArgs false
namespace Go.Proofs.YtcflokckfjkdpaaDoor.Der
open Go Go.RowKit Go.Proofs Go.Proofs.YtcflokckfjkdpaaDoor.Eng Go.Proofs.YtcflokckfjkdpaaDoor.Code
set_option maxRecDepth 100000
attribute [local irreducible] callK S.W opsW scrW scrT
theorem pos_cells {w : World} {A : Option Addr} {l : List Int} (hr : Rd w A (nums .u8 l)) (h0 : 0 < l.length) : ∃ ad, A = some ad ∧ ∀ i : Nat, i < l.length → w.cell? (ad.add i) = some (.int .u8 (at' l (i : Int))) := by
  obtain ⟨ad, e, _, hcl⟩ := hr.get (by rw [nums_length]; omega)
  exact ⟨ad, e, fun i hi => hcl.numN hi⟩
theorem whole_vw {w : World} {v : Value} {d : List Int} (hv : Vw .u8 w v d) (hb : ByteL d) (K : Value → World → Prop) (hK : K (.bool (whole d)) w) : callK Tryd.prog 58 [v] w K := by
  obtain ⟨A, c, rfl, hc, hr⟩ := hv
  refine call_of Tryd.func58 Code.h58 (by simp [Code.c58]) ?_
  unfold whole at hK
  by_cases h2 : (d.length : Int) < 2
  · have hl : ¬ 1 < d.length := by omega
    rw [decide_eq_false hl, Bool.false_and, Bool.false_and, Bool.or_false] at hK
    have he : decide (d.length = 1) = decide ((d.length : Int) = 1) := decide_eq_decide.2 (by omega)
    rw [he] at hK
    simp (disch := omega) only [wu64, wu32, wu8, fdiv_nn, EO, ↓EP, EQ, EM, ↓reduceIte, Int.reduceAdd, Int.reduceEq, Int.reduceLE, Int.reduceLT, Int.reduceMul, Int.reduceNeg, Int.reducePow, Int.reduceSub, Int.reduceToNat, Nat.reduceAdd, Nat.reduceEqDiff, Nat.reduceLT, Nat.reduceLeDiff, Nat.reduceMul, reduceCtorEq, Code.c58]
    exact hK
  · obtain ⟨ad, rfl, cell⟩ := pos_cells hr (by omega)
    have c0 := cell 0 (by omega)
    have c1 := cell 1 (by omega)
    rw [show ((0 : Nat) : Int) = 0 by rfl] at c0
    rw [show ((1 : Nat) : Int) = 1 by rfl] at c1
    have b0 := hb 0
    have b1 := hb 1
    rw [show ((0 : Nat) : Int) = 0 by rfl] at b0
    rw [show ((1 : Nat) : Int) = 1 by rfl] at b1
    rw [decide_eq_false (show ¬ d.length = 1 by omega), decide_eq_true (show 1 < d.length by omega)] at hK
    have e1 := d8_and128 b1
    by_cases hz : at' d 0 = 0
    · by_cases h1 : at' d 1 < 128
      · rw [decide_eq_true ⟨hz, h1⟩] at hK
        have e1' : bits .and .u8 (at' d 1) 128 = 0 := by rw [e1]; omega
        simp (disch := omega) only [wu64, wu32, wu8, fdiv_nn, EO, ↓EP, EQ, EM, ↓reduceIte, Int.reduceAdd, Int.reduceEq, Int.reduceLE, Int.reduceLT, Int.reduceMul, Int.reduceNeg, Int.reducePow, Int.reduceSub, Int.reduceToNat, Nat.reduceAdd, Nat.reduceEqDiff, Nat.reduceLT, Nat.reduceLeDiff, Nat.reduceMul, reduceCtorEq, Code.c58, c0, c1, e1', hz]
        exact hK
      · rw [decide_eq_false (fun h => h1 h.2), decide_eq_false (fun h => by omega)] at hK
        have e1' : bits .and .u8 (at' d 1) 128 = 128 := by rw [e1]; omega
        simp (disch := omega) only [wu64, wu32, wu8, fdiv_nn, EO, ↓EP, EQ, EM, ↓reduceIte, Int.reduceAdd, Int.reduceEq, Int.reduceLE, Int.reduceLT, Int.reduceMul, Int.reduceNeg, Int.reducePow, Int.reduceSub, Int.reduceToNat, Nat.reduceAdd, Nat.reduceEqDiff, Nat.reduceLT, Nat.reduceLeDiff, Nat.reduceMul, reduceCtorEq, Code.c58, c0, c1, e1', hz]
        exact hK
    · rw [decide_eq_false (fun h => hz h.1)] at hK
      by_cases h255 : at' d 0 = 255
      · by_cases h1 : at' d 1 < 128
        · rw [decide_eq_false (fun h => by omega)] at hK
          have e1' : bits .and .u8 (at' d 1) 128 = 0 := by rw [e1]; omega
          simp (disch := omega) only [wu64, wu32, wu8, fdiv_nn, EO, ↓EP, EQ, EM, ↓reduceIte, Int.reduceAdd, Int.reduceEq, Int.reduceLE, Int.reduceLT, Int.reduceMul, Int.reduceNeg, Int.reducePow, Int.reduceSub, Int.reduceToNat, Nat.reduceAdd, Nat.reduceEqDiff, Nat.reduceLT, Nat.reduceLeDiff, Nat.reduceMul, reduceCtorEq, Code.c58, c0, c1, e1', hz, h255, Bool.not_true, Bool.not_false]
          exact hK
        · rw [decide_eq_true ⟨h255, by omega⟩] at hK
          have e1' : bits .and .u8 (at' d 1) 128 = 128 := by rw [e1]; omega
          simp (disch := omega) only [wu64, wu32, wu8, fdiv_nn, EO, ↓EP, EQ, EM, ↓reduceIte, Int.reduceAdd, Int.reduceEq, Int.reduceLE, Int.reduceLT, Int.reduceMul, Int.reduceNeg, Int.reducePow, Int.reduceSub, Int.reduceToNat, Nat.reduceAdd, Nat.reduceEqDiff, Nat.reduceLT, Nat.reduceLeDiff, Nat.reduceMul, reduceCtorEq, Code.c58, c0, c1, e1', hz, h255, Bool.not_true, Bool.not_false]
          exact hK
      · rw [decide_eq_false (fun h => h255 h.1)] at hK
        simp (disch := omega) only [wu64, wu32, wu8, fdiv_nn, EO, ↓EP, EQ, EM, ↓reduceIte, Int.reduceAdd, Int.reduceEq, Int.reduceLE, Int.reduceLT, Int.reduceMul, Int.reduceNeg, Int.reducePow, Int.reduceSub, Int.reduceToNat, Nat.reduceAdd, Nat.reduceEqDiff, Nat.reduceLT, Nat.reduceLeDiff, Nat.reduceMul, reduceCtorEq, Code.c58, c0, c1, hz, h255]
        exact hK
theorem wrap_mul256 (x c : Int) : IntKind.i64.wrap (IntKind.i64.wrap x * 256 + c) = IntKind.i64.wrap (x * 256 + c) := by
  unfold IntKind.wrap IntKind.bits IntKind.signed
  simp only [Bool.true_and, decide_eq_true_eq]
  split <;> split <;> omega
theorem be_snoc (l : List Int) (c : Int) : beVal (l ++ [c]) = beVal l * 256 + c := by simp [beVal]
def sgn (d : List Int) (j : Nat) : Int := beVal (d.take j) - (if 128 ≤ at' d 0 then 256 ^ j else 0)
theorem sgn_succ {d : List Int} {j : Nat} (h : j < d.length) : sgn d (j + 1) = sgn d j * 256 + at' d (j : Int) := by
  unfold sgn
  rw [take_snoc h, be_snoc]
  split
  · rw [Int.pow_succ]; omega
  · omega
theorem sgn_one {d : List Int} (h : 0 < d.length) (hb : ByteL d) : IntKind.i64.wrap (IntKind.i8.wrap (at' d 0)) = IntKind.i64.wrap (sgn d 1) := by
  have b0 := hb 0
  rw [show ((0 : Nat) : Int) = 0 by rfl] at b0
  have e : d.take 1 = [at' d 0] := by
    have := take_snoc h
    simpa using this
  have e2 : sgn d 1 = IntKind.i8.wrap (at' d 0) := by
    unfold sgn
    rw [e]
    show (0 * 256 + at' d 0) - _ = _
    unfold IntKind.wrap IntKind.bits IntKind.signed
    simp only [Bool.true_and, decide_eq_true_eq]
    split <;> split <;> omega
  rw [e2]
def pr2 (a : Value) (e : Int) : Value := .tuple #[a, .int .i64 e]
set_option maxHeartbeats 1000000 in
theorem int_vw {w : World} {v : Value} {d : List Int} (hv : Vw .u8 w v d) (hb : ByteL d) (h63 : d.length ≤ 9223372036854775807) (K : Value → World → Prop) (hK : K (pr2 (.int .i64 (intR d).1) (intR d).2) w) : callK Tryd.prog 33 [v] w K := by
  have hv0 := hv
  obtain ⟨A, c, rfl, hc, hr⟩ := hv
  refine call_of Tryd.func33 Code.h33 (by simp [Code.c33]) ?_
  unfold intR at hK
  simp (disch := omega) only [wu64, wu32, wu8, fdiv_nn, EO, ↓EP, EQ, EM, ↓reduceIte, Int.reduceAdd, Int.reduceEq, Int.reduceLE, Int.reduceLT, Int.reduceMul, Int.reduceNeg, Int.reducePow, Int.reduceSub, Int.reduceToNat, Nat.reduceAdd, Nat.reduceEqDiff, Nat.reduceLT, Nat.reduceLeDiff, Nat.reduceMul, reduceCtorEq, Code.c33]
  refine whole_vw hv0 hb _ ?_
  by_cases hw : whole d = false
  · rw [if_pos hw] at hK
    simp (disch := omega) only [wu64, wu32, wu8, fdiv_nn, EO, ↓EP, EQ, EM, ↓reduceIte, Int.reduceAdd, Int.reduceEq, Int.reduceLE, Int.reduceLT, Int.reduceMul, Int.reduceNeg, Int.reducePow, Int.reduceSub, Int.reduceToNat, Nat.reduceAdd, Nat.reduceEqDiff, Nat.reduceLT, Nat.reduceLeDiff, Nat.reduceMul, reduceCtorEq, hw, Bool.not_false]
    exact hK
  rw [if_neg hw] at hK
  have hw' : whole d = true := by simpa using hw
  by_cases h8 : (8 : Int) < (d.length : Int)
  · rw [if_pos (by omega)] at hK
    simp (disch := omega) only [wu64, wu32, wu8, fdiv_nn, EO, ↓EP, EQ, EM, ↓reduceIte, Int.reduceAdd, Int.reduceEq, Int.reduceLE, Int.reduceLT, Int.reduceMul, Int.reduceNeg, Int.reducePow, Int.reduceSub, Int.reduceToNat, Nat.reduceAdd, Nat.reduceEqDiff, Nat.reduceLT, Nat.reduceLeDiff, Nat.reduceMul, reduceCtorEq, hw', Bool.not_true]
    exact hK
  rw [if_neg (by omega)] at hK
  have h0 : 0 < d.length := by
    apply Nat.pos_of_ne_zero
    intro h
    unfold whole at hw'
    rw [h] at hw'
    simp at hw'
  obtain ⟨ad, rfl, cell⟩ := pos_cells hr h0
  have c0 := cell 0 h0
  rw [show ((0 : Nat) : Int) = 0 by rfl] at c0
  have e1 := sgn_one h0 hb
  by_cases h1 : d.length = 1
  · have hbe : sgn d 1 = beVal d - (if 128 ≤ at' d 0 then 256 ^ d.length else 0) := by
      unfold sgn; rw [List.take_of_length_le (by omega), h1]
    rw [← hbe] at hK
    simp (disch := omega) only [wu64, wu32, wu8, fdiv_nn, EO, ↓EP, EQ, EM, ↓reduceIte, Int.reduceAdd, Int.reduceEq, Int.reduceLE, Int.reduceLT, Int.reduceMul, Int.reduceNeg, Int.reducePow, Int.reduceSub, Int.reduceToNat, Nat.reduceAdd, Nat.reduceEqDiff, Nat.reduceLT, Nat.reduceLeDiff, Nat.reduceMul, reduceCtorEq, hw', Bool.not_true, c0, e1]
    refine loop_inv (fun t ρ w' => w' = w ∧ ρ 23 = .int .i64 0 ∧ ρ 4 = .int .i64 (IntKind.i64.wrap (sgn d 1))) 1 ⟨rfl, by simp (disch := omega) only [wu64, wu32, wu8, fdiv_nn, EO, ↓EP, EQ, EM, ↓reduceIte, Int.reduceAdd, Int.reduceEq, Int.reduceLE, Int.reduceLT, Int.reduceMul, Int.reduceNeg, Int.reducePow, Int.reduceSub, Int.reduceToNat, Nat.reduceAdd, Nat.reduceEqDiff, Nat.reduceLT, Nat.reduceLeDiff, Nat.reduceMul, reduceCtorEq], by simp (disch := omega) only [wu64, wu32, wu8, fdiv_nn, EO, ↓EP, EQ, EM, ↓reduceIte, Int.reduceAdd, Int.reduceEq, Int.reduceLE, Int.reduceLT, Int.reduceMul, Int.reduceNeg, Int.reducePow, Int.reduceSub, Int.reduceToNat, Nat.reduceAdd, Nat.reduceEqDiff, Nat.reduceLT, Nat.reduceLeDiff, Nat.reduceMul, reduceCtorEq, e1]⟩ ?_
    rintro t ρ w' hf ⟨rfl, h23, r4⟩ N hN
    have r22 : ρ 22 = .int .i64 0 := by rw [hf 22 rfl]; simp (disch := omega) only [wu64, wu32, wu8, fdiv_nn, EO, ↓EP, EQ, EM, ↓reduceIte, Int.reduceAdd, Int.reduceEq, Int.reduceLE, Int.reduceLT, Int.reduceMul, Int.reduceNeg, Int.reducePow, Int.reduceSub, Int.reduceToNat, Nat.reduceAdd, Nat.reduceEqDiff, Nat.reduceLT, Nat.reduceLeDiff, Nat.reduceMul, reduceCtorEq, h1]; rfl
    clear hf
    simp (disch := omega) only [wu64, wu32, wu8, fdiv_nn, EO, ↓EP, EQ, EM, ↓reduceIte, Int.reduceAdd, Int.reduceEq, Int.reduceLE, Int.reduceLT, Int.reduceMul, Int.reduceNeg, Int.reducePow, Int.reduceSub, Int.reduceToNat, Nat.reduceAdd, Nat.reduceEqDiff, Nat.reduceLT, Nat.reduceLeDiff, Nat.reduceMul, reduceCtorEq, h23, r22, r4]
    exact hK
  obtain ⟨ad2, e2, cell2⟩ := sub_cells hr hc (lo := 1) (by omega)
  simp (disch := omega) only [wu64, wu32, wu8, fdiv_nn, EO, ↓EP, EQ, EM, ↓reduceIte, Int.reduceAdd, Int.reduceEq, Int.reduceLE, Int.reduceLT, Int.reduceMul, Int.reduceNeg, Int.reducePow, Int.reduceSub, Int.reduceToNat, Nat.reduceAdd, Nat.reduceEqDiff, Nat.reduceLT, Nat.reduceLeDiff, Nat.reduceMul, reduceCtorEq, hw', Bool.not_true, c0, e1, e2]
  refine loop_inv (fun t ρ w' => w' = w ∧ ∃ j : Nat, ρ 23 = .int .i64 j ∧ j + 1 ≤ d.length ∧ t = d.length - (j + 1) ∧ ρ 4 = .int .i64 (IntKind.i64.wrap (sgn d (j + 1)))) (d.length - 1) ⟨rfl, 0, by simp (disch := omega) only [wu64, wu32, wu8, fdiv_nn, EO, ↓EP, EQ, EM, ↓reduceIte, Int.reduceAdd, Int.reduceEq, Int.reduceLE, Int.reduceLT, Int.reduceMul, Int.reduceNeg, Int.reducePow, Int.reduceSub, Int.reduceToNat, Nat.reduceAdd, Nat.reduceEqDiff, Nat.reduceLT, Nat.reduceLeDiff, Nat.reduceMul, reduceCtorEq], by omega, by omega, by simp (disch := omega) only [wu64, wu32, wu8, fdiv_nn, EO, ↓EP, EQ, EM, ↓reduceIte, Int.reduceAdd, Int.reduceEq, Int.reduceLE, Int.reduceLT, Int.reduceMul, Int.reduceNeg, Int.reducePow, Int.reduceSub, Int.reduceToNat, Nat.reduceAdd, Nat.reduceEqDiff, Nat.reduceLT, Nat.reduceLeDiff, Nat.reduceMul, reduceCtorEq, e1]⟩ ?_
  rintro t ρ w' hf ⟨rfl, j, h23, hj, rfl, h4⟩ N hN
  have r21 : ρ 21 = .slice (some ad2) (d.length - 1) (c - 1) := by rw [hf 21 rfl]; simp (disch := omega) only [wu64, wu32, wu8, fdiv_nn, EO, ↓EP, EQ, EM, ↓reduceIte, Int.reduceAdd, Int.reduceEq, Int.reduceLE, Int.reduceLT, Int.reduceMul, Int.reduceNeg, Int.reducePow, Int.reduceSub, Int.reduceToNat, Nat.reduceAdd, Nat.reduceEqDiff, Nat.reduceLT, Nat.reduceLeDiff, Nat.reduceMul, reduceCtorEq, e2]
  have r22 : ρ 22 = .int .i64 ((d.length : Int) - 1) := by rw [hf 22 rfl]; simp (disch := omega) only [wu64, wu32, wu8, fdiv_nn, EO, ↓EP, EQ, EM, ↓reduceIte, Int.reduceAdd, Int.reduceEq, Int.reduceLE, Int.reduceLT, Int.reduceMul, Int.reduceNeg, Int.reducePow, Int.reduceSub, Int.reduceToNat, Nat.reduceAdd, Nat.reduceEqDiff, Nat.reduceLT, Nat.reduceLeDiff, Nat.reduceMul, reduceCtorEq]; congr 1; omega
  clear hf
  by_cases hjl : (j : Int) < (d.length : Int) - 1
  · have cj := cell2 j (by omega)
    rw [Nat.add_comm 1 j] at cj
    have bj := hb (j + 1)
    have hor : bits .or .i64 (IntKind.i64.wrap (IntKind.i64.wrap (sgn d (j + 1)) * 256)) (at' d ((j + 1 : Nat) : Int)) = IntKind.i64.wrap (sgn d (j + 1 + 1)) := by
      rw [i64_or8 bj.1 bj.2, wrap_mul256, sgn_succ (d := d) (j := j + 1) (by omega)]
    simp (disch := omega) only [wu64, wu32, wu8, fdiv_nn, EO, ↓EP, EQ, EM, ↓reduceIte, Int.reduceAdd, Int.reduceEq, Int.reduceLE, Int.reduceLT, Int.reduceMul, Int.reduceNeg, Int.reducePow, Int.reduceSub, Int.reduceToNat, Nat.reduceAdd, Nat.reduceEqDiff, Nat.reduceLT, Nat.reduceLeDiff, Nat.reduceMul, reduceCtorEq, h23, h4, r21, r22, cj]
    rw [hor]
    exact hN (d.length - (j + 1 + 1)) _ _ (by omega) ⟨rfl, j + 1, by simp (disch := omega) only [wu64, wu32, wu8, fdiv_nn, EO, ↓EP, EQ, EM, ↓reduceIte, Int.reduceAdd, Int.reduceEq, Int.reduceLE, Int.reduceLT, Int.reduceMul, Int.reduceNeg, Int.reducePow, Int.reduceSub, Int.reduceToNat, Nat.reduceAdd, Nat.reduceEqDiff, Nat.reduceLT, Nat.reduceLeDiff, Nat.reduceMul, reduceCtorEq, h23, Int.natCast_add], by omega, rfl, by simp (disch := omega) only [wu64, wu32, wu8, fdiv_nn, EO, ↓EP, EQ, EM, ↓reduceIte, Int.reduceAdd, Int.reduceEq, Int.reduceLE, Int.reduceLT, Int.reduceMul, Int.reduceNeg, Int.reducePow, Int.reduceSub, Int.reduceToNat, Nat.reduceAdd, Nat.reduceEqDiff, Nat.reduceLT, Nat.reduceLeDiff, Nat.reduceMul, reduceCtorEq]⟩
  · have hje : j + 1 = d.length := by omega
    have hbe : sgn d (j + 1) = beVal d - (if 128 ≤ at' d 0 then 256 ^ d.length else 0) := by
      unfold sgn; rw [List.take_of_length_le (by omega), hje]
    rw [← hbe] at hK
    simp (disch := omega) only [wu64, wu32, wu8, fdiv_nn, EO, ↓EP, EQ, EM, ↓reduceIte, Int.reduceAdd, Int.reduceEq, Int.reduceLE, Int.reduceLT, Int.reduceMul, Int.reduceNeg, Int.reducePow, Int.reduceSub, Int.reduceToNat, Nat.reduceAdd, Nat.reduceEqDiff, Nat.reduceLT, Nat.reduceLeDiff, Nat.reduceMul, reduceCtorEq, h23, h4, r21, r22]
    exact hK
theorem and_u8_1 : ∀ a : Nat, a < 256 → bits .and .u8 (a : Int) 1 = (a : Int) % 2 := by decide +kernel
theorem d8_and1 {a : Int} (h : 0 ≤ a ∧ a < 256) : bits .and .u8 a 1 = a % 2 := by
  obtain ⟨a, rfl⟩ := Int.eq_ofNat_of_zero_le h.1; exact and_u8_1 a (by omega)
theorem shl_low : ∀ k : Nat, k < 8 → 0 < k → ∀ a : Nat, a < 256 → (IntKind.u8.wrap ((a : Int) * 2 ^ (8 - k)) = 0) = ((a : Int) % 2 ^ k = 0) := by
  intro k hk h0 a ha
  have : k = 1 ∨ k = 2 ∨ k = 3 ∨ k = 4 ∨ k = 5 ∨ k = 6 ∨ k = 7 := by omega
  rw [wu8_mod]
  rcases this with rfl | rfl | rfl | rfl | rfl | rfl | rfl <;> exact propext ⟨fun h => by simp at h ⊢; omega, fun h => by simp at h ⊢; omega⟩
def pr3 (a : Value) (n e : Int) : Value := .tuple #[a, .int .i64 n, .int .i64 e]
set_option maxHeartbeats 1000000 in
theorem bits_vw {w : World} {v : Value} {d : List Int} (hv : Vw .u8 w v d) (hb : ByteL d) (hm : d.length ≤ 1073741824) (K : Value → World → Prop)
    (hK : ∀ v' w', Gw .u8 w w' v' (bitsR d).1 → K (pr3 v' (bitsR d).2.1 (bitsR d).2.2) w') : callK Tryd.prog 14 [v] w K := by
  obtain ⟨A, c, rfl, hc, hr⟩ := hv
  refine call_of Tryd.func14 Code.h14 (by simp [Code.c14]) ?_
  unfold bitsR at hK
  by_cases h0 : d.length = 0
  · rw [if_pos (.inl h0)] at hK
    simp (disch := omega) only [wu64, wu32, wu8, fdiv_nn, EO, ↓EP, EQ, EM, ↓reduceIte, Int.reduceAdd, Int.reduceEq, Int.reduceLE, Int.reduceLT, Int.reduceMul, Int.reduceNeg, Int.reducePow, Int.reduceSub, Int.reduceToNat, Nat.reduceAdd, Nat.reduceEqDiff, Nat.reduceLT, Nat.reduceLeDiff, Nat.reduceMul, reduceCtorEq, Code.c14, h0, Int.natCast_zero]
    exact hK _ _ (Gw.nil .u8 w)
  obtain ⟨ad, rfl, cell⟩ := pos_cells hr (by omega)
  have c0 := cell 0 (by omega)
  have b0 := hb 0
  rw [show ((0 : Nat) : Int) = 0 by rfl] at c0 b0
  by_cases h7 : 7 < at' d 0
  · rw [if_pos (.inr (.inl h7))] at hK
    simp (disch := omega) only [wu64, wu32, wu8, fdiv_nn, EO, ↓EP, EQ, EM, ↓reduceIte, Int.reduceAdd, Int.reduceEq, Int.reduceLE, Int.reduceLT, Int.reduceMul, Int.reduceNeg, Int.reducePow, Int.reduceSub, Int.reduceToNat, Nat.reduceAdd, Nat.reduceEqDiff, Nat.reduceLT, Nat.reduceLeDiff, Nat.reduceMul, reduceCtorEq, Code.c14, c0]
    exact hK _ _ (Gw.nil .u8 w)
  by_cases hz : at' d 0 = 0
  · rw [if_neg (fun h => by rcases h with h | h | h; exact h0 h; exact h7 h; exact h.1 hz), hz] at hK
    rw [hz] at c0
    rw [if_neg (by simp)] at hK
    simp (disch := omega) only [wu64, wu32, wu8, fdiv_nn, EO, ↓EP, EQ, EM, ↓reduceIte, Int.reduceAdd, Int.reduceEq, Int.reduceLE, Int.reduceLT, Int.reduceMul, Int.reduceNeg, Int.reducePow, Int.reduceSub, Int.reduceToNat, Nat.reduceAdd, Nat.reduceEqDiff, Nat.reduceLT, Nat.reduceLeDiff, Nat.reduceMul, reduceCtorEq, Code.c14, c0]
    intro m1 m2
    have f1 := Fr.drewN w (m1 + 1 + m2) nob
    refine clone_n (l := d.drop 1) (by simp) (by omega) ((hr.nb f1).subA c 1 hc) (by omega) _ fun A' c' w2 g2 => ?_
    have f2 := f1.nb g2.fr
    have cz : w2.cell? (ad.add 0) = some (.int .u8 0) := by
      obtain ⟨ad', e', _, hcl⟩ := (hr.nb f2).get (by rw [nums_length]; omega)
      cases e'
      rw [hcl.numN (j := 0) (by omega), show ((0 : Nat) : Int) = 0 by rfl, hz]
    simp (disch := omega) only [wu64, wu32, wu8, fdiv_nn, EO, ↓EP, EQ, EM, ↓reduceIte, Int.reduceAdd, Int.reduceEq, Int.reduceLE, Int.reduceLT, Int.reduceMul, Int.reduceNeg, Int.reducePow, Int.reduceSub, Int.reduceToNat, Nat.reduceAdd, Nat.reduceEqDiff, Nat.reduceLT, Nat.reduceLeDiff, Nat.reduceMul, reduceCtorEq, cz]
    intro m3
    exact hK _ _ ((g2.from f1).step (Fr.drewN w2 m3 nob))
  · by_cases h1 : d.length = 1
    · rw [if_pos (.inr (.inr ⟨hz, h1⟩))] at hK
      simp (disch := omega) only [wu64, wu32, wu8, fdiv_nn, EO, ↓EP, EQ, EM, ↓reduceIte, Int.reduceAdd, Int.reduceEq, Int.reduceLE, Int.reduceLT, Int.reduceMul, Int.reduceNeg, Int.reducePow, Int.reduceSub, Int.reduceToNat, Nat.reduceAdd, Nat.reduceEqDiff, Nat.reduceLT, Nat.reduceLeDiff, Nat.reduceMul, reduceCtorEq, Code.c14, c0, h1]
      exact hK _ _ (Gw.nil .u8 w)
    rw [if_neg (fun h => by rcases h with h | h | h; exact h0 h; exact h7 h; exact h1 h.2)] at hK
    obtain ⟨k, hk⟩ : ∃ k : Nat, at' d 0 = (k : Int) := ⟨(at' d 0).toNat, by omega⟩
    have hk8 : k < 8 := by omega
    have hk0 : 0 < k := by omega
    have hl := cell (d.length - 1) (by omega)
    have bl := hb (d.length - 1)
    have el : ((d.length - 1 : Nat) : Int) = (d.length : Int) - 1 := by omega
    rw [el] at hl bl
    rw [hk] at c0
    rw [hk] at hK
    have elt : ((d.length : Int) - 1).toNat = d.length - 1 := by omega
    have e8 : min (8 - (k : Int)).toNat 8 = 8 - k := by omega
    have bl' : ∃ x : Nat, at' d ((d.length : Int) - 1) = (x : Int) := ⟨(at' d ((d.length : Int) - 1)).toNat, by omega⟩
    obtain ⟨x, hx⟩ := bl'
    have hsh := shl_low k hk8 hk0 x (by omega)
    rw [hx, Int.toNat_natCast] at hK
    rw [hx] at hl
    simp (disch := omega) only [wu64, wu32, wu8, fdiv_nn, EO, ↓EP, EQ, EM, ↓reduceIte, Int.reduceAdd, Int.reduceEq, Int.reduceLE, Int.reduceLT, Int.reduceMul, Int.reduceNeg, Int.reducePow, Int.reduceSub, Int.reduceToNat, Nat.reduceAdd, Nat.reduceEqDiff, Nat.reduceLT, Nat.reduceLeDiff, Nat.reduceMul, reduceCtorEq, Code.c14, c0, elt, hl, e8]
    intro m1
    by_cases hmod : (x : Int) % 2 ^ k = 0
    · have hw := hsh.mpr hmod
      rw [if_neg (fun h => h hmod)] at hK
      rw [if_neg (fun h => h hw)]
      intro m2
      have f1 := Fr.drewN w (m1 + 1 + m2) nob
      refine clone_n (l := d.drop 1) (by simp) (by omega) ((hr.nb f1).subA c 1 hc) (by omega) _ fun A' c' w2 g2 => ?_
      have f2 := f1.nb g2.fr
      have cz : w2.cell? (ad.add 0) = some (.int .u8 k) := by
        obtain ⟨ad', e', _, hcl⟩ := (hr.nb f2).get (by rw [nums_length]; omega)
        cases e'
        rw [hcl.numN (j := 0) (by omega), show ((0 : Nat) : Int) = 0 by rfl, hk]
      simp (disch := omega) only [wu64, wu32, wu8, fdiv_nn, EO, ↓EP, EQ, EM, ↓reduceIte, Int.reduceAdd, Int.reduceEq, Int.reduceLE, Int.reduceLT, Int.reduceMul, Int.reduceNeg, Int.reducePow, Int.reduceSub, Int.reduceToNat, Nat.reduceAdd, Nat.reduceEqDiff, Nat.reduceLT, Nat.reduceLeDiff, Nat.reduceMul, reduceCtorEq, cz]
      intro m3
      exact hK _ _ ((g2.from f1).step (Fr.drewN w2 m3 nob))
    · have hw : ¬ IntKind.u8.wrap ((x : Int) * 2 ^ (8 - k)) = 0 := fun h => hmod (hsh.mp h)
      rw [if_pos hmod] at hK
      rw [if_pos hw]
      exact hK _ _ ((Gw.nil .u8 w).step (Fr.drewN w m1 nob))
theorem flagSum_bd (b : List Int) : ∀ k, 0 ≤ flagSum b k ∧ flagSum b k < 2 ^ k
  | 0 => by simp [flagSum]
  | k + 1 => by
    have := flagSum_bd b k
    have hb : bitAt b k = 0 ∨ bitAt b k = 1 := by unfold bitAt; omega
    rw [flagSum, Int.pow_succ]
    rcases hb with h | h <;> rw [h] <;> omega
theorem pow2_le {i k : Nat} (h : i ≤ k) : (2 : Int) ^ i ≤ 2 ^ k := by
  have := Nat.pow_le_pow_right (n := 2) (by omega) h
  exact_mod_cast this
set_option maxHeartbeats 1000000 in
theorem flags_vw {w : World} {v : Value} {d : List Int} (hv : Vw .u8 w v d) (hb : ByteL d) (hm : d.length ≤ 1073741824) (K : Value → World → Prop)
    (hK : ∀ w', Fr w w' nob → K (pr2 (.int .u32 (flagsR d).1) (flagsR d).2) w') : callK Tryd.prog 16 [v] w K := by
  obtain ⟨A, c, rfl, hc, hr⟩ := hv
  refine call_of Tryd.func16 Code.h16 (by simp [Code.c16]) ?_
  unfold flagsR at hK
  simp (disch := omega) only [wu64, wu32, wu8, fdiv_nn, EO, ↓EP, EQ, EM, ↓reduceIte, Int.reduceAdd, Int.reduceEq, Int.reduceLE, Int.reduceLT, Int.reduceMul, Int.reduceNeg, Int.reducePow, Int.reduceSub, Int.reduceToNat, Nat.reduceAdd, Nat.reduceEqDiff, Nat.reduceLT, Nat.reduceLeDiff, Nat.reduceMul, reduceCtorEq, Code.c16]
  refine bits_vw (Vw.of rfl hc hr) hb hm _ fun v1 w1 g1 => ?_
  simp only [pr3]
  have hbb : ByteL (bitsR d).1 := by
    unfold bitsR
    split
    · exact ByteL.of (by simp)
    · split
      · exact ByteL.of (by simp)
      · exact ByteL.of fun x hx => byteL_mem hb x (List.mem_of_mem_drop hx)
  generalize bitsR d = br at g1 hK hbb ⊢
  obtain ⟨bl, bn, be⟩ := br
  simp only at g1 hK hbb ⊢
  by_cases he : be = 0
  rotate_left
  · rw [if_pos (by simpa using he)] at hK
    have he' : (be = 0) = False := eq_false he
    simp (disch := omega) only [wu64, wu32, wu8, fdiv_nn, EO, ↓EP, EQ, EM, ↓reduceIte, Int.reduceAdd, Int.reduceEq, Int.reduceLE, Int.reduceLT, Int.reduceMul, Int.reduceNeg, Int.reducePow, Int.reduceSub, Int.reduceToNat, Nat.reduceAdd, Nat.reduceEqDiff, Nat.reduceLT, Nat.reduceLeDiff, Nat.reduceMul, reduceCtorEq, he']
    exact hK w1 g1.fr
  rw [if_neg (by simpa using he)] at hK
  obtain ⟨A1, c1, rfl, hc1, hR1⟩ := readn g1.sl rfl
  by_cases h4 : (4 : Int) < (bl.length : Int)
  · rw [if_pos (by omega)] at hK
    simp (disch := omega) only [wu64, wu32, wu8, fdiv_nn, EO, ↓EP, EQ, EM, ↓reduceIte, Int.reduceAdd, Int.reduceEq, Int.reduceLE, Int.reduceLT, Int.reduceMul, Int.reduceNeg, Int.reducePow, Int.reduceSub, Int.reduceToNat, Nat.reduceAdd, Nat.reduceEqDiff, Nat.reduceLT, Nat.reduceLeDiff, Nat.reduceMul, reduceCtorEq, he]
    exact hK w1 g1.fr
  rw [if_neg (by omega)] at hK
  simp (disch := omega) only [wu64, wu32, wu8, fdiv_nn, EO, ↓EP, EQ, EM, ↓reduceIte, Int.reduceAdd, Int.reduceEq, Int.reduceLE, Int.reduceLT, Int.reduceMul, Int.reduceNeg, Int.reducePow, Int.reduceSub, Int.reduceToNat, Nat.reduceAdd, Nat.reduceEqDiff, Nat.reduceLT, Nat.reduceLeDiff, Nat.reduceMul, reduceCtorEq, he]
  refine loop_inv (fun t ρ w' => w' = w1 ∧ ∃ k : Nat, ρ 26 = .int .i64 k ∧ k ≤ 8 * bl.length ∧ t = 8 * bl.length - k ∧ ρ 7 = .int .u32 (flagSum bl k)) (8 * bl.length) ⟨rfl, 0, by simp (disch := omega) only [wu64, wu32, wu8, fdiv_nn, EO, ↓EP, EQ, EM, ↓reduceIte, Int.reduceAdd, Int.reduceEq, Int.reduceLE, Int.reduceLT, Int.reduceMul, Int.reduceNeg, Int.reducePow, Int.reduceSub, Int.reduceToNat, Nat.reduceAdd, Nat.reduceEqDiff, Nat.reduceLT, Nat.reduceLeDiff, Nat.reduceMul, reduceCtorEq], by omega, by omega, by simp (disch := omega) only [wu64, wu32, wu8, fdiv_nn, EO, ↓EP, EQ, EM, ↓reduceIte, Int.reduceAdd, Int.reduceEq, Int.reduceLE, Int.reduceLT, Int.reduceMul, Int.reduceNeg, Int.reducePow, Int.reduceSub, Int.reduceToNat, Nat.reduceAdd, Nat.reduceEqDiff, Nat.reduceLT, Nat.reduceLeDiff, Nat.reduceMul, reduceCtorEq]; rfl⟩ ?_
  rintro t ρ w' hf ⟨rfl, k, h26, hk, rfl, h7⟩ N hN
  have r4 : ρ 4 = .slice A1 bl.length c1 := by rw [hf 4 rfl]; simp (disch := omega) only [wu64, wu32, wu8, fdiv_nn, EO, ↓EP, EQ, EM, ↓reduceIte, Int.reduceAdd, Int.reduceEq, Int.reduceLE, Int.reduceLT, Int.reduceMul, Int.reduceNeg, Int.reducePow, Int.reduceSub, Int.reduceToNat, Nat.reduceAdd, Nat.reduceEqDiff, Nat.reduceLT, Nat.reduceLeDiff, Nat.reduceMul, reduceCtorEq]
  have r25 : ρ 25 = .int .i64 (8 * (bl.length : Int)) := by rw [hf 25 rfl]; simp (disch := omega) only [wu64, wu32, wu8, fdiv_nn, EO, ↓EP, EQ, EM, ↓reduceIte, Int.reduceAdd, Int.reduceEq, Int.reduceLE, Int.reduceLT, Int.reduceMul, Int.reduceNeg, Int.reducePow, Int.reduceSub, Int.reduceToNat, Nat.reduceAdd, Nat.reduceEqDiff, Nat.reduceLT, Nat.reduceLeDiff, Nat.reduceMul, reduceCtorEq]
  clear hf
  by_cases hkl : (k : Int) < 8 * (bl.length : Int)
  · obtain ⟨ad, rfl, cell⟩ := pos_cells hR1 (by omega)
    have ck := cell (k / 8) (by omega)
    have bk := hbb (k / 8)
    have ek : ((k : Int) / 8).toNat = k / 8 := by omega
    have e8 : min (7 - (k : Int) % 8).toNat 8 = 7 - k % 8 := by omega
    have e32 : min ((k : Int)).toNat 32 = k := by omega
    have hbit : bits .and .u8 (at' bl ((k / 8 : Nat) : Int) / 2 ^ (7 - k % 8)) 1 = bitAt bl k := by
      have p1 : (1 : Int) ≤ 2 ^ (7 - k % 8) := by
        have := pow2_le (show 0 ≤ 7 - k % 8 by omega)
        simpa using this
      have q1 := Int.ediv_nonneg bk.1 (show (0 : Int) ≤ 2 ^ (7 - k % 8) by omega)
      have q2 := Int.ediv_le_self (2 ^ (7 - k % 8)) bk.1
      rw [d8_and1 ⟨q1, by omega⟩]; rfl
    have hfd : (at' bl ((k / 8 : Nat) : Int)).fdiv (2 ^ (7 - k % 8)) = at' bl ((k / 8 : Nat) : Int) / 2 ^ (7 - k % 8) := Int.fdiv_eq_ediv_of_nonneg _ (by
      have := pow2_le (show 0 ≤ 7 - k % 8 by omega)
      simp at this; omega)
    have hb01 : bitAt bl k = 0 ∨ bitAt bl k = 1 := by unfold bitAt; omega
    have p32 := pow2_le (show k ≤ 31 by omega)
    have p31 : (2 : Int) ^ 31 = 2147483648 := by decide
    have hfs := flagSum_bd bl k
    have hwb : IntKind.u32.wrap (bitAt bl k) = bitAt bl k := wu32 (by omega) (by omega)
    have hw2 : IntKind.u32.wrap (bitAt bl k * 2 ^ k) = bitAt bl k * 2 ^ k := by
      rcases hb01 with h | h <;> rw [h] <;> exact wu32 (by omega) (by omega)
    have hor : bits .or .u32 (flagSum bl k) (bitAt bl k * 2 ^ k) = flagSum bl (k + 1) := by
      rw [or32_add hfs.1 hfs.2 (by omega) (by rcases hb01 with h | h <;> rw [h] <;> omega), flagSum]
      omega
    simp (disch := omega) only [wu64, wu32, wu8, fdiv_nn, EO, ↓EP, EQ, EM, ↓reduceIte, Int.reduceAdd, Int.reduceEq, Int.reduceLE, Int.reduceLT, Int.reduceMul, Int.reduceNeg, Int.reducePow, Int.reduceSub, Int.reduceToNat, Nat.reduceAdd, Nat.reduceEqDiff, Nat.reduceLT, Nat.reduceLeDiff, Nat.reduceMul, reduceCtorEq, h26, h7, r4, r25, ck, ek, e8, e32, hfd, hbit, hwb, hw2, hor]
    exact hN (8 * bl.length - (k + 1)) _ _ (by omega) ⟨rfl, k + 1, by simp (disch := omega) only [wu64, wu32, wu8, fdiv_nn, EO, ↓EP, EQ, EM, ↓reduceIte, Int.reduceAdd, Int.reduceEq, Int.reduceLE, Int.reduceLT, Int.reduceMul, Int.reduceNeg, Int.reducePow, Int.reduceSub, Int.reduceToNat, Nat.reduceAdd, Nat.reduceEqDiff, Nat.reduceLT, Nat.reduceLeDiff, Nat.reduceMul, reduceCtorEq, h26, Int.natCast_add], by omega, rfl, by simp (disch := omega) only [wu64, wu32, wu8, fdiv_nn, EO, ↓EP, EQ, EM, ↓reduceIte, Int.reduceAdd, Int.reduceEq, Int.reduceLE, Int.reduceLT, Int.reduceMul, Int.reduceNeg, Int.reducePow, Int.reduceSub, Int.reduceToNat, Nat.reduceAdd, Nat.reduceEqDiff, Nat.reduceLT, Nat.reduceLeDiff, Nat.reduceMul, reduceCtorEq, hfd, hbit, hwb, hw2, hor]⟩
  · have hke : k = 8 * bl.length := by omega
    subst hke
    simp (disch := omega) only [wu64, wu32, wu8, fdiv_nn, EO, ↓EP, EQ, EM, ↓reduceIte, Int.reduceAdd, Int.reduceEq, Int.reduceLE, Int.reduceLT, Int.reduceMul, Int.reduceNeg, Int.reducePow, Int.reduceSub, Int.reduceToNat, Nat.reduceAdd, Nat.reduceEqDiff, Nat.reduceLT, Nat.reduceLeDiff, Nat.reduceMul, reduceCtorEq, h26, h7, r25]
    exact hK w' g1.fr
end Go.Proofs.YtcflokckfjkdpaaDoor.Der
end
section
set_option linter.unusedVariables false
set_option linter.unusedSimpArgs false
namespace Go.Proofs.YtcflokckfjkdpaaDoor.Big
open Go Go.Proofs.YtcflokckfjkdpaaDoor.Eng
def pw (k : Nat) : Int := 4294967296 ^ k
theorem pw_zero : pw 0 = 1 := rfl
theorem pw_succ (k : Nat) : pw (k + 1) = pw k * 4294967296 := by unfold pw; exact Int.pow_succ _ _
theorem pw_pos (k : Nat) : 0 < pw k := by unfold pw; exact Int.pow_pos (by decide)
attribute [irreducible] pw
def val : List Int → Int
  | [] => 0
  | x :: r => x + 4294967296 * val r
def Lim (l : List Int) : Prop := ∀ x ∈ l, 0 ≤ x ∧ x < 4294967296
theorem val_nil : val [] = 0 := rfl
theorem val_cons (x : Int) (r : List Int) : val (x :: r) = x + 4294967296 * val r := rfl
theorem val_one (x : Int) : val [x] = x := by rw [val_cons, val_nil]; omega
theorem Lim.nil : Lim [] := fun x h => by cases h
theorem Lim.cons {x : Int} {r : List Int} (h : Lim (x :: r)) : (0 ≤ x ∧ x < 4294967296) ∧ Lim r := ⟨h x (by simp), fun y hy => h y (by simp [hy])⟩
theorem Lim.mk {x : Int} {r : List Int} (h0 : 0 ≤ x) (h1 : x < 4294967296) (h : Lim r) : Lim (x :: r) := fun y hy => by
  rcases List.mem_cons.1 hy with rfl | hy
  · exact ⟨h0, h1⟩
  · exact h y hy
theorem Lim.app {a b : List Int} (ha : Lim a) (hb : Lim b) : Lim (a ++ b) := fun x hx => by
  rcases List.mem_append.1 hx with h | h
  · exact ha x h
  · exact hb x h
theorem Lim.take {l : List Int} (h : Lim l) (n : Nat) : Lim (l.take n) := fun x hx => h x (List.mem_of_mem_take hx)
theorem Lim.drop {l : List Int} (h : Lim l) (n : Nat) : Lim (l.drop n) := fun x hx => h x (List.mem_of_mem_drop hx)
theorem Lim.set {l : List Int} (h : Lim l) (n : Nat) {x : Int} (h0 : 0 ≤ x) (h1 : x < 4294967296) : Lim (l.set n x) := fun y hy => by
  rcases List.mem_or_eq_of_mem_set hy with h' | rfl
  · exact h y h'
  · exact ⟨h0, h1⟩
theorem Lim.zeros (n : Nat) : Lim (List.replicate n 0) := fun x hx => by
  obtain ⟨_, rfl⟩ := List.mem_replicate.1 hx; omega
theorem at_nat (l : List Int) (k : Nat) : at' l k = l.getD k 0 := by unfold at'; rw [Int.toNat_natCast]
theorem Lim.at {l : List Int} (h : Lim l) (i : Int) : 0 ≤ at' l i ∧ at' l i < 4294967296 := by
  unfold at'
  rw [List.getD_eq_getElem?_getD]
  cases e : l[i.toNat]? with
  | none => simp
  | some x => exact h x (List.mem_of_getElem? e)
theorem at_get {l : List Int} {k : Nat} (h : k < l.length) : at' l k = l[k] := by rw [at_nat, List.getD_eq_getElem?_getD, List.getElem?_eq_getElem h]; rfl
theorem at_take {l : List Int} {k n : Nat} (h : k < n) : at' (l.take n) k = at' l k := by
  rw [at_nat, at_nat, List.getD_eq_getElem?_getD, List.getD_eq_getElem?_getD, List.getElem?_take, if_pos h]
theorem at_drop (l : List Int) (k n : Nat) : at' (l.drop n) k = at' l (n + k : Nat) := by
  rw [at_nat, at_nat, List.getD_eq_getElem?_getD, List.getD_eq_getElem?_getD, List.getElem?_drop]
theorem at_setN {l : List Int} {k : Nat} (h : k < l.length) (x : Int) : at' (l.set k x) k = x := by
  rw [at_nat, List.getD_eq_getElem?_getD, List.getElem?_set_self h]; rfl
theorem val_app : ∀ (a b : List Int), val (a ++ b) = val a + pw a.length * val b
  | [], b => by rw [List.nil_append, List.length_nil, val_nil, pw_zero]; omega
  | x :: a, b => by
    rw [List.cons_append, val_cons, val_cons, val_app a b, List.length_cons, pw_succ]
    grind
theorem val_bd : ∀ {l : List Int}, Lim l → 0 ≤ val l ∧ val l < pw l.length
  | [], _ => by rw [val_nil, List.length_nil, pw_zero]; omega
  | x :: r, h => by
    obtain ⟨hx, hr⟩ := h.cons
    have := val_bd hr
    rw [val_cons, List.length_cons, pw_succ]
    omega
theorem val_zeros (n : Nat) : val (List.replicate n 0) = 0 := by
  induction n with
  | zero => rfl
  | succ n ih => rw [List.replicate_succ, val_cons, ih]; rfl
theorem val_take_succ {l : List Int} {k : Nat} (h : k < l.length) : val (l.take (k + 1)) = val (l.take k) + at' l k * pw k := by
  have e : l.take (k + 1) = l.take k ++ [at' l k] := by
    rw [List.take_add_one, List.getElem?_eq_getElem h, at_get h]; rfl
  have hk : (l.take k).length = k := by rw [List.length_take]; omega
  rw [e, val_app, hk, val_one]
  grind
theorem val_split (l : List Int) {k : Nat} (h : k ≤ l.length) : val l = val (l.take k) + pw k * val (l.drop k) := by
  have hk : (l.take k).length = k := by rw [List.length_take]; omega
  have := val_app (l.take k) (l.drop k)
  rwa [List.take_append_drop, hk] at this
theorem take_set {l : List Int} {k : Nat} {x : Int} : (l.set k x).take k = l.take k := by rw [List.take_set_of_le (Nat.le_refl _)]
theorem val_take_set {l : List Int} {k : Nat} {x : Int} (h : k < l.length) : val ((l.set k x).take (k + 1)) = val (l.take k) + x * pw k := by
  rw [val_take_succ (by rw [List.length_set]; exact h), take_set, at_setN h]
theorem val_set {l : List Int} {k : Nat} {x : Int} (h : k < l.length) : val (l.set k x) = val l + (x - at' l k) * pw k := by
  have h1 := val_split (l.set k x) (k := k + 1) (by rw [List.length_set]; omega)
  have h2 := val_split l (k := k + 1) (by omega)
  rw [val_take_set h, List.drop_set_of_lt (by omega)] at h1
  rw [val_take_succ h] at h2
  rw [h1, h2]
  grind
theorem val_one_more {l : List Int} (h : l ≠ []) : ∃ k : Nat, l.length = k + 1 ∧ val l = val (l.take k) + at' l k * pw k := by
  obtain ⟨k, hk⟩ : ∃ k, l.length = k + 1 := ⟨l.length - 1, by have := List.length_pos_iff.2 h; omega⟩
  refine ⟨k, hk, ?_⟩
  rw [← val_take_succ (by omega), ← hk, List.take_length]
def Can (l : List Int) : Prop := Lim l ∧ (l = [] ∨ at' l ((l.length - 1 : Nat) : Int) ≠ 0)
theorem Can.nil : Can [] := ⟨Lim.nil, .inl rfl⟩
theorem Can.pos {l : List Int} (h : Can l) (h0 : l ≠ []) : pw (l.length - 1) ≤ val l := by
  obtain ⟨k, hk, hv⟩ := val_one_more h0
  rcases h.2 with e | e
  · exact absurd e h0
  rw [show l.length - 1 = k by omega] at *
  have h1 := h.1.at k
  have h2 := val_bd (h.1.take k)
  have h3 := Int.mul_le_mul_of_nonneg_right (show (1 : Int) ≤ at' l k by omega) (show (0 : Int) ≤ pw k by have := pw_pos k; omega)
  omega
theorem Can.zero {l : List Int} (h : Can l) (hv : val l = 0) : l = [] := by
  by_cases h0 : l = []
  · exact h0
  · have := h.pos h0
    have := pw_pos (l.length - 1)
    omega
theorem Can.tail {x : Int} {r : List Int} (h : Can (x :: r)) : Can r := by
  refine ⟨h.1.cons.2, ?_⟩
  by_cases hr : r = []
  · exact .inl hr
  · rcases h.2 with e | e
    · cases e
    · right
      have := List.length_pos_iff.2 hr
      obtain ⟨k, hk⟩ : ∃ k, r.length = k + 1 := ⟨r.length - 1, by omega⟩
      rw [List.length_cons, hk] at e
      rw [hk]
      simp only [Nat.add_sub_cancel] at e ⊢
      rw [at_nat] at e ⊢
      simpa using e
theorem Can.uniq : ∀ {a b : List Int}, Can a → Can b → val a = val b → a = b
  | [], b, _, hb, h => (hb.zero h.symm).symm
  | x :: r, [], ha, _, h => ha.zero h
  | x :: r, y :: s, ha, hb, h => by
    rw [val_cons, val_cons] at h
    have h1 := ha.1.cons.1
    have h2 := hb.1.cons.1
    have e : x = y := by omega
    subst e
    rw [Can.uniq ha.tail hb.tail (by omega)]
def limbsN : Nat → List Int
  | 0 => []
  | n + 1 => (((n + 1) % 4294967296 : Nat) : Int) :: limbsN ((n + 1) / 4294967296)
termination_by n => n
decreasing_by omega
theorem limbsN_can : ∀ n : Nat, Can (limbsN n) ∧ val (limbsN n) = n := by
  intro n
  induction n using Nat.strongRecOn with
  | ind n ih =>
    cases n with
    | zero => rw [limbsN]; exact ⟨Can.nil, rfl⟩
    | succ n =>
      obtain ⟨hc, hv⟩ := ih ((n + 1) / 4294967296) (by omega)
      rw [limbsN]
      refine ⟨⟨Lim.mk (by omega) (by omega) hc.1, .inr ?_⟩, by rw [val_cons, hv]; omega⟩
      by_cases h0 : limbsN ((n + 1) / 4294967296) = []
      · rw [h0]
        rw [h0, val_nil] at hv
        rw [at_nat]
        simp only [List.length_cons, List.length_nil, Nat.add_sub_cancel]
        show (((n + 1) % 4294967296 : Nat) : Int) ≠ 0
        omega
      · rcases hc.2 with e | e
        · exact absurd e h0
        · have := List.length_pos_iff.2 h0
          obtain ⟨k, hk⟩ : ∃ k, (limbsN ((n + 1) / 4294967296)).length = k + 1 := ⟨(limbsN ((n + 1) / 4294967296)).length - 1, by omega⟩
          rw [hk] at e
          rw [List.length_cons, hk]
          simp only [Nat.add_sub_cancel] at e ⊢
          rw [at_nat] at e ⊢
          simpa using e
def limbs (v : Int) : List Int := limbsN v.toNat
theorem limbs_can (v : Int) : Can (limbs v) := (limbsN_can _).1
theorem limbs_val {v : Int} (h : 0 ≤ v) : val (limbs v) = v := by unfold limbs; rw [(limbsN_can _).2]; omega
theorem limbs_lim (v : Int) : Lim (limbs v) := (limbs_can v).1
theorem Can.eq {l : List Int} (h : Can l) {v : Int} (hv : val l = v) : l = limbs v := by
  have := val_bd h.1
  exact h.uniq (limbs_can v) (by rw [limbs_val (by omega)]; exact hv)
theorem limbs_zero : limbs 0 = [] := ((Can.nil).eq rfl).symm
theorem limbs_nil {v : Int} (h : 0 ≤ v) (hl : limbs v = []) : v = 0 := by
  have := limbs_val h
  rw [hl] at this
  exact this.symm
theorem cut_can {l : List Int} (h : Lim l) {n : Nat} (hn : n ≤ l.length) (hz : ∀ j : Nat, n ≤ j → j < l.length → at' l j = 0) (ht : n = 0 ∨ at' l ((n - 1 : Nat) : Int) ≠ 0) : l.take n = limbs (val l) := by
  have hv : val (l.drop n) = 0 := by
    have : l.drop n = List.replicate (l.length - n) 0 := by
      apply List.ext_getElem
      · simp
      · intro i h1 h2
        simp only [List.length_drop] at h1
        rw [List.getElem_drop, List.getElem_replicate, ← at_get (by omega)]
        exact hz (n + i) (by omega) (by omega)
    rw [this, val_zeros]
  refine Can.eq ⟨h.take n, ?_⟩ (by rw [val_split l hn, hv]; omega)
  rcases ht with rfl | ht
  · left; simp
  · by_cases h0 : n = 0
    · left; subst h0; simp
    · right
      rw [List.length_take, Nat.min_eq_left hn, at_take (by omega)]
      exact ht
theorem Can.limbs {l : List Int} (h : Can l) : limbs (val l) = l := (h.eq rfl).symm
attribute [irreducible] limbs
end Go.Proofs.YtcflokckfjkdpaaDoor.Big
end
section
set_option linter.unusedVariables false
set_option linter.unusedSimpArgs false
namespace Go.Proofs.YtcflokckfjkdpaaDoor.Big
open Go Go.Proofs.YtcflokckfjkdpaaDoor.Eng
theorem p2_pos (k : Nat) : (0 : Int) < 2 ^ k := Int.pow_pos (by decide)
theorem p2_mono {a b : Nat} (h : a ≤ b) : (2 : Int) ^ a ≤ 2 ^ b := by
  obtain ⟨d, rfl⟩ := Nat.exists_eq_add_of_le h
  rw [Int.pow_add]
  have h1 := p2_pos a
  have h2 := p2_pos d
  have := Int.mul_le_mul_of_nonneg_left (show (1 : Int) ≤ 2 ^ d by omega) (show (0 : Int) ≤ 2 ^ a by omega)
  omega
theorem p2_lt {a b : Nat} (h : (2 : Int) ^ a < 2 ^ b) : a < b := by
  by_cases hab : a < b
  · exact hab
  · have := p2_mono (show b ≤ a by omega)
    omega
def bl (v : Int) : Nat := if v ≤ 0 then 0 else Nat.log2 v.toNat + 1
theorem bl_zero : bl 0 = 0 := rfl
theorem bl_pos {v : Int} (h : 0 < v) : ∃ k : Nat, bl v = k + 1 ∧ (2 : Int) ^ k ≤ v ∧ v < 2 ^ (k + 1) := by
  refine ⟨Nat.log2 v.toNat, by unfold bl; rw [if_neg (by omega)], ?_, ?_⟩
  · have := Nat.log2_self_le (n := v.toNat) (by omega)
    have h2 : ((2 ^ Nat.log2 v.toNat : Nat) : Int) ≤ (v.toNat : Nat) := by exact_mod_cast this
    rw [Int.natCast_pow] at h2
    have : ((2 : Nat) : Int) = 2 := rfl
    rw [this] at h2
    omega
  · have := Nat.lt_log2_self (n := v.toNat)
    have h2 : ((v.toNat : Nat) : Int) < ((2 ^ (Nat.log2 v.toNat + 1) : Nat) : Int) := by exact_mod_cast this
    rw [Int.natCast_pow] at h2
    have : ((2 : Nat) : Int) = 2 := rfl
    rw [this] at h2
    omega
theorem bl_of {v : Int} {k : Nat} (h1 : (2 : Int) ^ k ≤ v) (h2 : v < 2 ^ (k + 1)) : bl v = k + 1 := by
  have := p2_pos k
  obtain ⟨j, hj, h3, h4⟩ := bl_pos (v := v) (by omega)
  have a := p2_lt (a := k) (b := j + 1) (by omega)
  have b := p2_lt (a := j) (b := k + 1) (by omega)
  omega
theorem bl_le {v : Int} (h0 : 0 ≤ v) {k : Nat} : bl v ≤ k ↔ v < 2 ^ k := by
  by_cases hv : v = 0
  · subst hv
    have := p2_pos k
    rw [bl_zero]
    exact ⟨fun _ => this, fun _ => Nat.zero_le _⟩
  · obtain ⟨j, hj, h3, h4⟩ := bl_pos (v := v) (by omega)
    rw [hj]
    constructor
    · intro h
      have := p2_mono h
      omega
    · intro h
      have := p2_lt (a := j) (b := k) (by omega)
      omega
theorem bl_mul {v u : Int} {k : Nat} (hu : 0 < u) (h1 : u * 2 ^ k ≤ v) (h2 : v < (u + 1) * 2 ^ k) : bl v = k + bl u := by
  obtain ⟨j, hj, h3, h4⟩ := bl_pos hu
  have hk := p2_pos k
  rw [hj, show k + (j + 1) = (j + k) + 1 by omega]
  refine bl_of ?_ ?_
  · rw [Int.pow_add]
    have := Int.mul_le_mul_of_nonneg_right h3 (show (0 : Int) ≤ 2 ^ k by omega)
    omega
  · rw [show j + k + 1 = (j + 1) + k by omega, Int.pow_add]
    have := Int.mul_le_mul_of_nonneg_right (show u + 1 ≤ 2 ^ (j + 1) by omega) (show (0 : Int) ≤ 2 ^ k by omega)
    omega
theorem bl_div {v : Int} {k : Nat} (h : (2 : Int) ^ k ≤ v) : bl v = k + bl (v / 2 ^ k) := by
  have hk := p2_pos k
  have h1 := Int.mul_ediv_add_emod v (2 ^ k)
  have h2 := Int.emod_nonneg v (show (2 : Int) ^ k ≠ 0 by omega)
  have h3 := Int.emod_lt_of_pos v hk
  refine bl_mul ?_ ?_ ?_
  · have := Int.le_ediv_of_mul_le hk (show 1 * 2 ^ k ≤ v by omega)
    omega
  · grind
  · grind
theorem pw_p2 (k : Nat) : pw k = 2 ^ (32 * k) := by
  induction k with
  | zero => rw [pw_zero]; rfl
  | succ k ih => rw [pw_succ, ih, show 32 * (k + 1) = 32 * k + 32 by omega, Int.pow_add]; rfl
theorem bl_val {l : List Int} (h : Lim l) {k : Nat} (hk : l.length = k + 1) (ht : at' l k ≠ 0) : bl (val l) = 32 * k + bl (at' l k) := by
  have h0 : l ≠ [] := by rintro rfl; simp at hk
  have hv : val l = val (l.take k) + at' l k * pw k := by
    rw [← val_take_succ (by omega), ← hk, List.take_length]
  have h1 := h.at k
  have h2 := val_bd (h.take k)
  rw [List.length_take, Nat.min_eq_left (by omega)] at h2
  rw [pw_p2] at hv h2
  refine bl_mul (by omega) (by omega) (by grind)
def lenTab : ByteArray := ⟨#[0, 1, 2, 2, 3, 3, 3, 3, 4, 4, 4, 4, 4, 4, 4, 4, 5, 5, 5, 5, 5, 5, 5, 5, 5, 5, 5, 5, 5, 5, 5, 5, 6, 6, 6, 6, 6, 6, 6, 6, 6, 6, 6, 6, 6, 6, 6, 6, 6, 6, 6, 6, 6, 6, 6, 6, 6, 6, 6, 6, 6, 6, 6, 6, 7, 7, 7, 7, 7, 7, 7, 7, 7, 7, 7, 7, 7, 7, 7, 7, 7, 7, 7, 7, 7, 7, 7, 7, 7, 7, 7, 7, 7, 7, 7, 7, 7, 7, 7, 7, 7, 7, 7, 7, 7, 7, 7, 7, 7, 7, 7, 7, 7, 7, 7, 7, 7, 7, 7, 7, 7, 7, 7, 7, 7, 7, 7, 7, 8, 8, 8, 8, 8, 8, 8, 8, 8, 8, 8, 8, 8, 8, 8, 8, 8, 8, 8, 8, 8, 8, 8, 8, 8, 8, 8, 8, 8, 8, 8, 8, 8, 8, 8, 8, 8, 8, 8, 8, 8, 8, 8, 8, 8, 8, 8, 8, 8, 8, 8, 8, 8, 8, 8, 8, 8, 8, 8, 8, 8, 8, 8, 8, 8, 8, 8, 8, 8, 8, 8, 8, 8, 8, 8, 8, 8, 8, 8, 8, 8, 8, 8, 8, 8, 8, 8, 8, 8, 8, 8, 8, 8, 8, 8, 8, 8, 8, 8, 8, 8, 8, 8, 8, 8, 8, 8, 8, 8, 8, 8, 8, 8, 8, 8, 8, 8, 8, 8, 8, 8, 8, 8, 8, 8, 8, 8, 8]⟩
theorem lenTab_all : ∀ n : Fin 256, ∃ h : n.1 < lenTab.size, (lenTab[n.1]'h).toNat = bl (n.1 : Int) := by decide +kernel
end Go.Proofs.YtcflokckfjkdpaaDoor.Big
end
section
set_option linter.unusedVariables false
set_option linter.unusedSimpArgs false
namespace Go.Proofs.YtcflokckfjkdpaaDoor.Spec
open Go Go.RowKit Go.Proofs Go.Proofs.YtcflokckfjkdpaaDoor.Eng Go.Proofs.YtcflokckfjkdpaaDoor.Code Go.Proofs.YtcflokckfjkdpaaDoor.Big
set_option maxRecDepth 100000
attribute [local irreducible] callK S.W opsW scrW
theorem len32_spec (x : Int) (hx : 0 ≤ x ∧ x < 4294967296) (w : World) (K : Value → World → Prop)
    (hK : K (.int .i64 (bl x : Int)) w) : callK Tryd.prog 73 [.int .u32 x] w K := by
  refine call_of Tryd.func73 Code.h73 (by simp [Code.c73]) ?_
  have low : ∀ (y n : Int), 0 ≤ y → y < 256 → 0 ≤ n → n < 100 → (bl x : Int) = n + bl y → ∃ h : y.toNat < lenTab.size, K (.int .i64 (IntKind.i64.wrap (n + IntKind.i64.wrap ((lenTab[y.toNat]'h).toNat : Int)))) w := by
    intro y n h0 h1 h2 h3 e
    have hb : bl y ≤ 8 := (bl_le h0).2 (by omega)
    obtain ⟨h, e2⟩ := lenTab_all ⟨y.toNat, by omega⟩
    simp only at e2
    refine ⟨h, ?_⟩
    rw [e2, show ((y.toNat : Nat) : Int) = y by omega, w64 (n := (bl y : Int)) (by omega) (by omega), w64 (by omega) (by omega), ← e]
    exact hK
  have f256 : ∀ y : Int, 256 ≤ y → (bl y : Int) = 8 + bl (y / 256) := fun y h => by have := bl_div (v := y) (k := 8) (by omega); simp at this; omega
  have f65536 : 65536 ≤ x → (bl x : Int) = 16 + bl (x / 65536) := fun h => by have := bl_div (v := x) (k := 16) (by omega); simp at this; omega
  by_cases h1 : 65536 ≤ x
  · have := f65536 h1
    by_cases h2 : 256 ≤ x / 65536
    · have := f256 _ h2
      simp (disch := omega) only [wu64, wu32, wu8, fdiv_nn, EO, ↓EP, EQ, EM, ↓reduceIte, Int.reduceAdd, Int.reduceEq, Int.reduceLE, Int.reduceLT, Int.reduceMul, Int.reduceNeg, Int.reducePow, Int.reduceSub, Int.reduceToNat, Nat.reduceAdd, Nat.reduceEqDiff, Nat.reduceLT, Nat.reduceLeDiff, Nat.reduceMul, reduceCtorEq, Code.c73, W_join, ixsK]
      exact low _ _ (by omega) (by omega) (by omega) (by omega) (by omega)
    · simp (disch := omega) only [wu64, wu32, wu8, fdiv_nn, EO, ↓EP, EQ, EM, ↓reduceIte, Int.reduceAdd, Int.reduceEq, Int.reduceLE, Int.reduceLT, Int.reduceMul, Int.reduceNeg, Int.reducePow, Int.reduceSub, Int.reduceToNat, Nat.reduceAdd, Nat.reduceEqDiff, Nat.reduceLT, Nat.reduceLeDiff, Nat.reduceMul, reduceCtorEq, Code.c73, W_join, ixsK]
      exact low _ _ (by omega) (by omega) (by omega) (by omega) (by omega)
  · by_cases h2 : 256 ≤ x
    · have := f256 _ h2
      simp (disch := omega) only [wu64, wu32, wu8, fdiv_nn, EO, ↓EP, EQ, EM, ↓reduceIte, Int.reduceAdd, Int.reduceEq, Int.reduceLE, Int.reduceLT, Int.reduceMul, Int.reduceNeg, Int.reducePow, Int.reduceSub, Int.reduceToNat, Nat.reduceAdd, Nat.reduceEqDiff, Nat.reduceLT, Nat.reduceLeDiff, Nat.reduceMul, reduceCtorEq, Code.c73, W_join, ixsK]
      exact low _ _ (by omega) (by omega) (by omega) (by omega) (by omega)
    · simp (disch := omega) only [wu64, wu32, wu8, fdiv_nn, EO, ↓EP, EQ, EM, ↓reduceIte, Int.reduceAdd, Int.reduceEq, Int.reduceLE, Int.reduceLT, Int.reduceMul, Int.reduceNeg, Int.reducePow, Int.reduceSub, Int.reduceToNat, Nat.reduceAdd, Nat.reduceEqDiff, Nat.reduceLT, Nat.reduceLeDiff, Nat.reduceMul, reduceCtorEq, Code.c73, W_join, ixsK]
      exact low _ _ (by omega) (by omega) (by omega) (by omega) (by omega)
theorem cut_spec {w : World} {A : Option Addr} {n c : Nat} {l : List Int} (hn : l.length = n) (hl : Rd w A (nums .u32 l)) (hL : Lim l) (hc : n ≤ c) (h63 : n ≤ 4611686018427387904) (K : Value → World → Prop)
    (hK : ∀ m, m ≤ n → l.take m = limbs (val l) → m = (limbs (val l)).length → K (.slice A m c) w) : callK Tryd.prog 72 [.slice A n c] w K := by
  refine call_of Tryd.func72 Code.h72 (by simp [Code.c72]) ?_
  subst hn
  simp (disch := omega) only [EO, ↓EP, EQ, EM, ↓reduceIte, Int.reduceAdd, Int.reduceEq, Int.reduceLE, Int.reduceLT, Int.reduceMul, Int.reduceNeg, Int.reducePow, Int.reduceSub, Int.reduceToNat, Nat.reduceAdd, Nat.reduceEqDiff, Nat.reduceLT, Nat.reduceLeDiff, Nat.reduceMul, reduceCtorEq, Code.c72]
  refine loop_inv (fun t ρ w' => w' = w ∧ ρ 3 = .int .i64 t ∧ t ≤ l.length ∧ ∀ j : Nat, t ≤ j → j < l.length → at' l j = 0) l.length ⟨rfl, by simp (disch := omega) only [EO, ↓EP, EQ, EM, ↓reduceIte, Int.reduceAdd, Int.reduceEq, Int.reduceLE, Int.reduceLT, Int.reduceMul, Int.reduceNeg, Int.reducePow, Int.reduceSub, Int.reduceToNat, Nat.reduceAdd, Nat.reduceEqDiff, Nat.reduceLT, Nat.reduceLeDiff, Nat.reduceMul, reduceCtorEq], Nat.le_refl _, fun j h1 h2 => by omega⟩ ?_
  rintro t ρ w' hf ⟨rfl, h3, ht, hz⟩ N hN
  have r0 : ρ 0 = .slice A l.length c := by rw [hf 0 rfl]; simp only [↓EP, EQ, EM, ↓reduceIte, Int.reduceAdd, Int.reduceEq, Int.reduceLE, Int.reduceLT, Int.reduceMul, Int.reduceNeg, Int.reducePow, Int.reduceSub, Int.reduceToNat, Nat.reduceAdd, Nat.reduceEqDiff, Nat.reduceLT, Nat.reduceLeDiff, Nat.reduceMul, reduceCtorEq]
  clear hf
  have fin : (t = 0 ∨ at' l ((t - 1 : Nat) : Int) ≠ 0) → K (.slice A t c) w' := fun h => by
    have e := cut_can hL ht hz h
    exact hK t ht e (by rw [← e, List.length_take]; omega)
  cases t with
  | zero =>
    simp (disch := omega) only [EO, ↓EP, EQ, EM, ↓reduceIte, Int.reduceAdd, Int.reduceEq, Int.reduceLE, Int.reduceLT, Int.reduceMul, Int.reduceNeg, Int.reducePow, Int.reduceSub, Int.reduceToNat, Nat.reduceAdd, Nat.reduceEqDiff, Nat.reduceLT, Nat.reduceLeDiff, Nat.reduceMul, reduceCtorEq, h3, r0, Int.natCast_zero]
    exact fin (.inl rfl)
  | succ k =>
    obtain ⟨p, rfl, _, hp⟩ := hl.get (by rw [nums_length]; omega)
    have cp := hp.numN (j := k) (by omega)
    have e1 : ((k + 1 : Nat) : Int) - 1 = k := by omega
    by_cases he : at' l k = 0
    · simp (disch := omega) only [EO, ↓EP, EQ, EM, ↓reduceIte, Int.reduceAdd, Int.reduceEq, Int.reduceLE, Int.reduceLT, Int.reduceMul, Int.reduceNeg, Int.reducePow, Int.reduceSub, Int.reduceToNat, Nat.reduceAdd, Nat.reduceEqDiff, Nat.reduceLT, Nat.reduceLeDiff, Nat.reduceMul, reduceCtorEq, h3, r0, e1, cp, he]
      exact hN k _ _ (by omega) ⟨rfl, by simp (disch := omega) only [EO, ↓EP, EQ, EM, ↓reduceIte, Int.reduceAdd, Int.reduceEq, Int.reduceLE, Int.reduceLT, Int.reduceMul, Int.reduceNeg, Int.reducePow, Int.reduceSub, Int.reduceToNat, Nat.reduceAdd, Nat.reduceEqDiff, Nat.reduceLT, Nat.reduceLeDiff, Nat.reduceMul, reduceCtorEq], by omega, fun j h1 h2 => by
        by_cases hj : j = k
        · subst hj; exact he
        · exact hz j (by omega) h2⟩
    · have hf : (at' l k = 0) = False := eq_false he
      simp (disch := omega) only [EO, ↓EP, EQ, EM, ↓reduceIte, Int.reduceAdd, Int.reduceEq, Int.reduceLE, Int.reduceLT, Int.reduceMul, Int.reduceNeg, Int.reducePow, Int.reduceSub, Int.reduceToNat, Nat.reduceAdd, Nat.reduceEqDiff, Nat.reduceLT, Nat.reduceLeDiff, Nat.reduceMul, reduceCtorEq, h3, r0, e1, cp, hf]
      exact fin (.inr (by rw [show k + 1 - 1 = k by omega]; exact he))
end Go.Proofs.YtcflokckfjkdpaaDoor.Spec
end
section
set_option linter.unusedVariables false
set_option linter.unusedSimpArgs false
namespace Go.Proofs.YtcflokckfjkdpaaDoor.Spec
open Go Go.RowKit Go.Proofs Go.Proofs.YtcflokckfjkdpaaDoor.Eng Go.Proofs.YtcflokckfjkdpaaDoor.Code Go.Proofs.YtcflokckfjkdpaaDoor.Big
set_option maxRecDepth 100000
attribute [local irreducible] callK S.W opsW scrW
theorem own_cut {k : IntKind} {w0 w : World} {b m n : Nat} {l l' : List Int} (hB : Blk w b (nums k l)) (hb : w0.heap.size ≤ b) (f : Fr w0 w nob) (hn : l.length = n) (hm : m ≤ n) (he : l.take m = l') : Gw k w0 w (.slice (some ⟨b, 0, none⟩) m n) l' := by
  refine ⟨.inr ⟨b, l.drop m, ?_, ?_⟩, fun x e => by cases e; exact hb, f⟩
  · rw [← he, List.length_take, List.length_drop, Nat.min_eq_left (by omega)]
    congr 1; omega
  · rw [← he, List.take_append_drop]; exact hB
theorem blk_rd {k : IntKind} {w : World} {b : Nat} {l : List Int} (hB : Blk w b (nums k l)) : Rd w (some ⟨b, 0, none⟩) (nums k l) := hB.rd 0 (n := l.length) (by rw [List.drop_zero, nums_take]; simp)
end Go.Proofs.YtcflokckfjkdpaaDoor.Spec
end
section
set_option linter.unusedVariables false
set_option linter.unusedSimpArgs false
namespace Go.Proofs.YtcflokckfjkdpaaDoor.Spec
open Go Go.RowKit Go.Proofs Go.Proofs.YtcflokckfjkdpaaDoor.Eng Go.Proofs.YtcflokckfjkdpaaDoor.Code Go.Proofs.YtcflokckfjkdpaaDoor.Big
set_option maxRecDepth 100000
attribute [local irreducible] callK S.W opsW scrW
theorem can_top {v : Int} (hv : 0 ≤ v) {k : Nat} (hk : (limbs v).length = k + 1) : at' (limbs v) k ≠ 0 ∧ bl v = 32 * k + bl (at' (limbs v) k) := by
  have hc := limbs_can v
  have h0 : at' (limbs v) k ≠ 0 := by
    rcases hc.2 with e | e
    · rw [e] at hk; simp at hk
    · rw [hk] at e; exact e
  refine ⟨h0, ?_⟩
  have := bl_val hc.1 hk h0
  rwa [limbs_val hv] at this
theorem bits_spec {w : World} {A : Option Addr} {n c : Nat} {l : List Int} (hn : l.length = n) (hl : Rd w A (nums .u32 l)) (hL : Lim l) (hc : n ≤ c) (hn' : n ≤ 1099511627776) (K : Value → World → Prop)
    (hK : K (.int .i64 (bl (val l) : Int)) w) : callK Tryd.prog 60 [.slice A n c] w K := by
  refine call_of Tryd.func60 Code.h60 (by simp [Code.c60]) ?_
  simp (disch := omega) only [EO, ↓EP, EQ, EM, ↓reduceIte, Int.reduceAdd, Int.reduceEq, Int.reduceLE, Int.reduceLT, Int.reduceMul, Int.reduceNeg, Int.reducePow, Int.reduceSub, Int.reduceToNat, Nat.reduceAdd, Nat.reduceEqDiff, Nat.reduceLT, Nat.reduceLeDiff, Nat.reduceMul, reduceCtorEq, Code.c60]
  have hv := (val_bd hL).1
  refine cut_spec hn hl hL hc (by omega) _ fun m hm he hlen => ?_
  cases m with
  | zero =>
    simp (disch := omega) only [EO, ↓EP, EQ, EM, ↓reduceIte, Int.reduceAdd, Int.reduceEq, Int.reduceLE, Int.reduceLT, Int.reduceMul, Int.reduceNeg, Int.reducePow, Int.reduceSub, Int.reduceToNat, Nat.reduceAdd, Nat.reduceEqDiff, Nat.reduceLT, Nat.reduceLeDiff, Nat.reduceMul, reduceCtorEq, Int.natCast_zero]
    have e : val l = 0 := limbs_nil hv (List.length_eq_zero_iff.1 hlen.symm)
    rw [e, bl_zero] at hK
    exact hK
  | succ k =>
    obtain ⟨h0, hb⟩ := can_top hv hlen.symm
    have hr := hl.take (k + 1)
    rw [he] at hr
    obtain ⟨p, rfl, _, hp⟩ := hr.get (by rw [nums_length]; omega)
    have cp := hp.numN (j := k) (by omega)
    have e1 : ((k + 1 : Nat) : Int) - 1 = k := by omega
    have bt := (limbs_lim (val l)).at k
    have hb32 : bl (at' (limbs (val l)) k) ≤ 32 := (bl_le bt.1).2 (by omega)
    simp (disch := omega) only [EO, ↓EP, EQ, EM, ↓reduceIte, Int.reduceAdd, Int.reduceEq, Int.reduceLE, Int.reduceLT, Int.reduceMul, Int.reduceNeg, Int.reducePow, Int.reduceSub, Int.reduceToNat, Nat.reduceAdd, Nat.reduceEqDiff, Nat.reduceLT, Nat.reduceLeDiff, Nat.reduceMul, reduceCtorEq, e1, cp]
    refine len32_spec _ bt _ _ ?_
    have e2 : (32 : Int) * k + bl (at' (limbs (val l)) k) = (bl (val l) : Int) := by rw [hb]; push_cast; rfl
    simp (disch := omega) only [EO, ↓EP, EQ, EM, ↓reduceIte, Int.reduceAdd, Int.reduceEq, Int.reduceLE, Int.reduceLT, Int.reduceMul, Int.reduceNeg, Int.reducePow, Int.reduceSub, Int.reduceToNat, Nat.reduceAdd, Nat.reduceEqDiff, Nat.reduceLT, Nat.reduceLeDiff, Nat.reduceMul, reduceCtorEq, e2]
    exact hK
end Go.Proofs.YtcflokckfjkdpaaDoor.Spec
end
section
set_option linter.unusedVariables false
set_option linter.unusedSimpArgs false
namespace Go.Proofs.YtcflokckfjkdpaaDoor.Spec
open Go Go.RowKit Go.Proofs Go.Proofs.YtcflokckfjkdpaaDoor.Eng Go.Proofs.YtcflokckfjkdpaaDoor.Code Go.Proofs.YtcflokckfjkdpaaDoor.Big
set_option maxRecDepth 100000
attribute [local irreducible] callK S.W opsW scrW
end Go.Proofs.YtcflokckfjkdpaaDoor.Spec
end
section
set_option linter.unusedVariables false
set_option linter.unusedSimpArgs false
namespace Go.Proofs.YtcflokckfjkdpaaDoor.Spec
open Go Go.RowKit Go.Proofs Go.Proofs.YtcflokckfjkdpaaDoor.Eng Go.Proofs.YtcflokckfjkdpaaDoor.Code Go.Proofs.YtcflokckfjkdpaaDoor.Big
set_option maxRecDepth 100000
attribute [local irreducible] callK S.W opsW scrW
end Go.Proofs.YtcflokckfjkdpaaDoor.Spec
end
section
set_option linter.unusedVariables false
set_option linter.unusedSimpArgs false
namespace Go.Proofs.YtcflokckfjkdpaaDoor.Spec
open Go Go.RowKit Go.Proofs Go.Proofs.YtcflokckfjkdpaaDoor.Eng Go.Proofs.YtcflokckfjkdpaaDoor.Code Go.Proofs.YtcflokckfjkdpaaDoor.Big
set_option maxRecDepth 100000
attribute [local irreducible] callK S.W opsW scrW
theorem val_drop_at (l : List Int) {k : Nat} (h : k < l.length) : val (l.drop k) = at' l k + 4294967296 * val (l.drop (k + 1)) := by
  rw [List.drop_eq_getElem_cons h, val_cons, at_get h]
end Go.Proofs.YtcflokckfjkdpaaDoor.Spec
end
section
set_option linter.unusedVariables false
set_option linter.unusedSimpArgs false
namespace Go.Proofs.YtcflokckfjkdpaaDoor.Spec
open Go Go.RowKit Go.Proofs Go.Proofs.YtcflokckfjkdpaaDoor.Eng Go.Proofs.YtcflokckfjkdpaaDoor.Code Go.Proofs.YtcflokckfjkdpaaDoor.Big
set_option maxRecDepth 100000
attribute [local irreducible] callK S.W opsW scrW
end Go.Proofs.YtcflokckfjkdpaaDoor.Spec
end
section
set_option linter.unusedVariables false
set_option linter.unusedSimpArgs false
namespace Go.Proofs.YtcflokckfjkdpaaDoor.Spec
open Go Go.RowKit Go.Proofs Go.Proofs.YtcflokckfjkdpaaDoor.Eng Go.Proofs.YtcflokckfjkdpaaDoor.Code Go.Proofs.YtcflokckfjkdpaaDoor.Big
set_option maxRecDepth 100000
attribute [local irreducible] callK S.W opsW scrW
end Go.Proofs.YtcflokckfjkdpaaDoor.Spec
end
section
set_option linter.unusedVariables false
set_option linter.unusedSimpArgs false
namespace Go.Proofs.YtcflokckfjkdpaaDoor.Big
open Go Go.Proofs.YtcflokckfjkdpaaDoor.Eng
theorem mul_r {a b c : Int} (h : a ≤ b) (hc : 0 ≤ c) : a * c ≤ b * c := Int.mul_le_mul_of_nonneg_right h hc
theorem lt_of_mul {a b c : Int} (h : a * c < b * c) (hc : 0 ≤ c) : a < b := by
  by_cases hab : a < b
  · exact hab
  · have := mul_r (show b ≤ a by omega) hc
    omega
end Go.Proofs.YtcflokckfjkdpaaDoor.Big
end
section
set_option linter.unusedVariables false
set_option linter.unusedSimpArgs false
namespace Go.Proofs.YtcflokckfjkdpaaDoor.Spec
open Go Go.RowKit Go.Proofs Go.Proofs.YtcflokckfjkdpaaDoor.Eng Go.Proofs.YtcflokckfjkdpaaDoor.Code Go.Proofs.YtcflokckfjkdpaaDoor.Big
set_option maxRecDepth 100000
attribute [local irreducible] callK S.W opsW scrW
structure PD (w0 w : World) (ub vb qb : Nat) (us vs qs : List Int) : Prop where
  bu : Blk w ub (nums .u32 us)
  bv : Blk w vb (nums .u32 vs)
  bq : Blk w qb (nums .u32 qs)
  fr : Fr w0 w nob
theorem PD.nb {w0 w w' : World} {ub vb qb : Nat} {us vs qs : List Int} (h : PD w0 w ub vb qb us vs qs) (f : Fr w w' nob) : PD w0 w' ub vb qb us vs qs :=
  ⟨h.bu.nb f, h.bv.nb f, h.bq.nb f, h.fr.nb f⟩
end Go.Proofs.YtcflokckfjkdpaaDoor.Spec
end
section
set_option linter.unusedVariables false
set_option linter.unusedSimpArgs false
namespace Go.Proofs.YtcflokckfjkdpaaDoor.Big
open Go Go.Proofs.YtcflokckfjkdpaaDoor.Eng
def leb : List Int → Int
  | [] => 0
  | x :: r => x + 256 * leb r
def Byt (l : List Int) : Prop := ∀ x ∈ l, 0 ≤ x ∧ x < 256
theorem Byt.nil : Byt [] := fun x h => by cases h
theorem Byt.cons {x : Int} {r : List Int} (h : Byt (x :: r)) : (0 ≤ x ∧ x < 256) ∧ Byt r := ⟨h x (by simp), fun y hy => h y (by simp [hy])⟩
theorem Byt.mk {x : Int} {r : List Int} (h0 : 0 ≤ x) (h1 : x < 256) (h : Byt r) : Byt (x :: r) := fun y hy => by
  rcases List.mem_cons.1 hy with rfl | hy
  · exact ⟨h0, h1⟩
  · exact h y hy
theorem Byt.app {a b : List Int} (ha : Byt a) (hb : Byt b) : Byt (a ++ b) := fun x hx => by
  rcases List.mem_append.1 hx with h | h
  · exact ha x h
  · exact hb x h
theorem Byt.take {l : List Int} (h : Byt l) (n : Nat) : Byt (l.take n) := fun x hx => h x (List.mem_of_mem_take hx)
theorem Byt.drop {l : List Int} (h : Byt l) (n : Nat) : Byt (l.drop n) := fun x hx => h x (List.mem_of_mem_drop hx)
theorem Byt.rev {l : List Int} (h : Byt l) : Byt l.reverse := fun x hx => h x (List.mem_reverse.1 hx)
theorem Byt.zeros (n : Nat) : Byt (List.replicate n 0) := fun x hx => by
  obtain ⟨_, rfl⟩ := List.mem_replicate.1 hx; omega
theorem Byt.set {l : List Int} (h : Byt l) (n : Nat) {x : Int} (h0 : 0 ≤ x) (h1 : x < 256) : Byt (l.set n x) := fun y hy => by
  rcases List.mem_or_eq_of_mem_set hy with h' | rfl
  · exact h y h'
  · exact ⟨h0, h1⟩
theorem Byt.at {l : List Int} (h : Byt l) (i : Int) : 0 ≤ at' l i ∧ at' l i < 256 := by
  unfold at'
  rw [List.getD_eq_getElem?_getD]
  cases e : l[i.toNat]? with
  | none => simp
  | some x => exact h x (List.mem_of_getElem? e)
theorem leb_bd : ∀ {l : List Int}, Byt l → 0 ≤ leb l ∧ leb l < 256 ^ l.length
  | [], _ => by rw [leb, List.length_nil]; omega
  | x :: r, h => by
    obtain ⟨hx, hr⟩ := h.cons
    have := leb_bd hr
    rw [leb, List.length_cons, Int.pow_succ]
    omega
theorem leb_app : ∀ (a b : List Int), leb (a ++ b) = leb a + 256 ^ a.length * leb b
  | [], b => by rw [List.nil_append, List.length_nil, leb]; omega
  | x :: a, b => by
    rw [List.cons_append, leb, leb, leb_app a b, List.length_cons, Int.pow_succ]
    grind
theorem leb_take_succ {l : List Int} {k : Nat} (h : k < l.length) : leb (l.take (k + 1)) = leb (l.take k) + at' l k * 256 ^ k := by
  have e : l.take (k + 1) = l.take k ++ [at' l k] := by
    rw [List.take_add_one, List.getElem?_eq_getElem h, at_get h]; rfl
  have hk : (l.take k).length = k := by rw [List.length_take]; omega
  rw [e, leb_app, hk, leb, leb]
  grind
theorem p8_pw (k : Nat) : pw k = 256 ^ (4 * k) := by
  rw [pw_p2, show (256 : Int) = 2 ^ 8 by rfl, ← Int.pow_mul, ← Nat.mul_assoc]
theorem p8_p2 (k : Nat) : (256 : Int) ^ k = 2 ^ (8 * k) := by rw [show (256 : Int) = 2 ^ 8 by rfl, ← Int.pow_mul]
theorem p8_add (a b : Nat) : (256 : Int) ^ (a + b) = 256 ^ a * 256 ^ b := Int.pow_add _ _ _
def bv (l : List Int) : Int := leb l.reverse
theorem at_rev {l : List Int} {i : Nat} (h : i < l.length) : at' l.reverse i = at' l (l.length - 1 - i : Nat) := by
  rw [at_get (by simpa using h), at_get (by omega), List.getElem_reverse]
end Go.Proofs.YtcflokckfjkdpaaDoor.Big
end
section
set_option linter.unusedVariables false
set_option linter.unusedSimpArgs false
namespace Go.Proofs.YtcflokckfjkdpaaDoor.Big
open Go Go.Proofs.YtcflokckfjkdpaaDoor.Eng
def fbR (b : List Int) : List Int × Int := if 2048 < b.length then ([], 3) else (limbs (bv b), 0)
theorem limbs_one : limbs 1 = [1] := by
  have : Can [1] := ⟨fun x h => by simp at h; omega, .inr (by decide)⟩
  exact (this.eq (by decide)).symm
end Go.Proofs.YtcflokckfjkdpaaDoor.Big
end
section
set_option linter.unusedVariables false
set_option linter.unusedSimpArgs false
namespace Go.Proofs.YtcflokckfjkdpaaDoor.Spec
open Go Go.RowKit Go.Proofs Go.Proofs.YtcflokckfjkdpaaDoor.Eng Go.Proofs.YtcflokckfjkdpaaDoor.Code Go.Proofs.YtcflokckfjkdpaaDoor.Big
set_option maxRecDepth 100000
attribute [local irreducible] callK S.W opsW scrW
def Nv (w : World) (v : Value) (x : Int) : Prop := 0 ≤ x ∧ Vw .u32 w v (limbs x)
theorem Nv.nb {w w' : World} {v : Value} {x : Int} (h : Nv w v x) (f : Fr w w' nob) : Nv w' v x := ⟨h.1, h.2.nb f⟩
theorem Nv.nil (w : World) : Nv w (.slice none 0 0) 0 := ⟨Int.le_refl _, by rw [limbs_zero]; exact Vw.nil _ _⟩
theorem Nv.one {w w' : World} (h : New w w' (nums .u32 [1])) : Nv w' (.slice (some ⟨w.heap.size, 0, none⟩) 1 1) 1 := ⟨by decide, by rw [limbs_one]; exact h.vw rfl⟩
theorem bits_vw {w : World} {va : Value} {l : List Int} (ha : Vw .u32 w va l) (hL : Lim l) (h : l.length ≤ 1099511627776) (K : Value → World → Prop)
    (hK : K (.int .i64 (bl (val l) : Int)) w) : callK Tryd.prog 60 [va] w K := by
  obtain ⟨A, c, rfl, hc, hr⟩ := ha
  exact bits_spec rfl hr hL hc h K hK
end Go.Proofs.YtcflokckfjkdpaaDoor.Spec
end
section
set_option linter.unusedVariables false
set_option linter.unusedSimpArgs false
namespace Go.Proofs.YtcflokckfjkdpaaDoor.Spec
open Go Go.RowKit Go.Proofs Go.Proofs.YtcflokckfjkdpaaDoor.Eng Go.Proofs.YtcflokckfjkdpaaDoor.Code Go.Proofs.YtcflokckfjkdpaaDoor.Big
set_option maxRecDepth 100000
attribute [local irreducible] callK S.W opsW scrW
set_option maxHeartbeats 1000000 in
theorem frombytes_vw {w : World} {va : Value} {l : List Int} (ha : Vw .u8 w va l) (hL : Byt l) (K : Value → World → Prop)
    (hK : ∀ v w', Gw .u32 w w' v (fbR l).1 → K (.tuple #[v, .int .i64 (fbR l).2]) w') : callK Tryd.prog 59 [va] w K := by
  obtain ⟨A, c, rfl, hc, hr⟩ := ha
  refine call_of Tryd.func59 Code.h59 (by simp [Code.c59]) ?_
  by_cases hbig : 2048 < l.length
  · have e : fbR l = ([], 3) := by unfold fbR; rw [if_pos hbig]
    rw [e] at hK
    simp (disch := omega) only [EO, ↓EP, EQ, EM, ↓reduceIte, Int.reduceAdd, Int.reduceEq, Int.reduceLE, Int.reduceLT, Int.reduceMul, Int.reduceNeg, Int.reducePow, Int.reduceSub, Int.reduceToNat, Nat.reduceAdd, Nat.reduceEqDiff, Nat.reduceLT, Nat.reduceLeDiff, Nat.reduceMul, reduceCtorEq, Code.c59]
    exact hK _ w (Gw.nil _ _)
  have e : fbR l = (limbs (bv l), 0) := by unfold fbR; rw [if_neg hbig]
  rw [e] at hK
  obtain ⟨N, hN⟩ : ∃ N : Nat, N = (l.length + 3) / 4 := ⟨_, rfl⟩
  have eN : (((l.length : Int) + 3) / 4).toNat = N := by omega
  simp (disch := omega) only [EO, ↓EP, EQ, EM, ↓reduceIte, Int.reduceAdd, Int.reduceEq, Int.reduceLE, Int.reduceLT, Int.reduceMul, Int.reduceNeg, Int.reducePow, Int.reduceSub, Int.reduceToNat, Nat.reduceAdd, Nat.reduceEqDiff, Nat.reduceLT, Nat.reduceLeDiff, Nat.reduceMul, reduceCtorEq, Code.c59]
  refine al_k (nums .u32 (List.replicate N 0)) (by rw [madeCells_list, nums_replicate, eN]) fun w1 n1 => ?_
  simp (disch := omega) only [EO, ↓EP, EQ, EM, ↓reduceIte, Int.reduceAdd, Int.reduceEq, Int.reduceLE, Int.reduceLT, Int.reduceMul, Int.reduceNeg, Int.reducePow, Int.reduceSub, Int.reduceToNat, Nat.reduceAdd, Nat.reduceEqDiff, Nat.reduceLT, Nat.reduceLeDiff, Nat.reduceMul, reduceCtorEq, eN]
  refine loop_inv (fun t ρ w2 => ∃ (k : Nat) (o : List Int), ρ 16 = .int .i64 k ∧ k ≤ l.length ∧ t = l.length - k ∧ Blk w2 w.heap.size (nums .u32 o) ∧ o.length = N ∧ Lim o ∧ val o = leb (l.reverse.take k) ∧ Fr w w2 nob) _
    ⟨0, _, by simp (disch := omega) only [EO, ↓EP, EQ, EM, ↓reduceIte, Int.reduceAdd, Int.reduceEq, Int.reduceLE, Int.reduceLT, Int.reduceMul, Int.reduceNeg, Int.reducePow, Int.reduceSub, Int.reduceToNat, Nat.reduceAdd, Nat.reduceEqDiff, Nat.reduceLT, Nat.reduceLeDiff, Nat.reduceMul, reduceCtorEq], by omega, rfl, n1.blk, by simp, Lim.zeros _, by rw [val_zeros]; rfl, n1.fr nob⟩ ?_
  rintro t ρ w2 hf ⟨k, o, h16, hk, rfl, hB, ho, hO, hv, f2⟩ M hM
  have q0 : ρ 0 = .slice A l.length c := by rw [hf 0 rfl]; simp (disch := omega) only [EO, ↓EP, EQ, EM, ↓reduceIte, Int.reduceAdd, Int.reduceEq, Int.reduceLE, Int.reduceLT, Int.reduceMul, Int.reduceNeg, Int.reducePow, Int.reduceSub, Int.reduceToNat, Nat.reduceAdd, Nat.reduceEqDiff, Nat.reduceLT, Nat.reduceLeDiff, Nat.reduceMul, reduceCtorEq]
  have q4 : ρ 4 = .slice (some ⟨w.heap.size, 0, none⟩) N N := by rw [hf 4 rfl]; simp (disch := omega) only [EO, ↓EP, EQ, EM, ↓reduceIte, Int.reduceAdd, Int.reduceEq, Int.reduceLE, Int.reduceLT, Int.reduceMul, Int.reduceNeg, Int.reducePow, Int.reduceSub, Int.reduceToNat, Nat.reduceAdd, Nat.reduceEqDiff, Nat.reduceLT, Nat.reduceLeDiff, Nat.reduceMul, reduceCtorEq, eN]
  have q15 : ρ 15 = .int .i64 l.length := by rw [hf 15 rfl]; simp (disch := omega) only [EO, ↓EP, EQ, EM, ↓reduceIte, Int.reduceAdd, Int.reduceEq, Int.reduceLE, Int.reduceLT, Int.reduceMul, Int.reduceNeg, Int.reducePow, Int.reduceSub, Int.reduceToNat, Nat.reduceAdd, Nat.reduceEqDiff, Nat.reduceLT, Nat.reduceLeDiff, Nat.reduceMul, reduceCtorEq]
  clear hf
  by_cases hkl : (k : Int) < (l.length : Int)
  · obtain ⟨p, rfl, _, hp⟩ := (hr.nb f2).get (by rw [nums_length]; omega)
    have cp := hp.numN (j := l.length - 1 - k) (by omega)
    have co := hB.numN (j := k / 4) (by omega)
    have bx := hL.at (l.length - 1 - k : Nat)
    have bo := hO.at (k / 4 : Nat)
    have ei : ((k : Int) / 4).toNat = k / 4 := by omega
    have ej : ((l.length : Int) - 1 - (k : Int)).toNat = l.length - 1 - k := by omega
    obtain ⟨s, hs⟩ : ∃ s : Nat, s = 8 * (k % 4) := ⟨_, rfl⟩
    have em : min (8 * ((k : Int) % 4)).toNat 32 = s := by omega
    have hp2 : (0 : Int) < 2 ^ s := p2_pos s
    have h24 : (2 : Int) ^ s ≤ 2 ^ 24 := p2_mono (by omega)
    have e24 : (2 : Int) ^ 24 = 16777216 := rfl
    have hx0 := Int.mul_nonneg bx.1 (show (0 : Int) ≤ 2 ^ s by omega)
    have hx1 : at' l (l.length - 1 - k : Nat) * 2 ^ s + 2 ^ s ≤ 4294967296 := by
      have := Int.mul_le_mul (show at' l (l.length - 1 - k : Nat) + 1 ≤ 256 by omega) (show (2 : Int) ^ s ≤ 16777216 by omega) (by omega) (by omega)
      grind
    have hk256 : (256 : Int) ^ k = pw (k / 4) * 2 ^ s := by
      rw [p8_pw, show (2 : Int) ^ s = 256 ^ (k % 4) by rw [p8_p2, hs], ← p8_add]; congr 1; omega
    have hlow : at' o (k / 4 : Nat) < 2 ^ s := by
      have hb := leb_bd (hL.rev.take k)
      rw [← hv, List.length_take, List.length_reverse, Nat.min_eq_left hk, hk256] at hb
      have h1 := val_split o (k := k / 4) (by omega)
      have h2 := (val_bd (hO.take (k / 4))).1
      have h3 : val (o.drop (k / 4)) * pw (k / 4) < 2 ^ s * pw (k / 4) := by
        have e1 : val (o.drop (k / 4)) * pw (k / 4) = pw (k / 4) * val (o.drop (k / 4)) := Int.mul_comm _ _
        have e2 : 2 ^ s * pw (k / 4) = pw (k / 4) * 2 ^ s := Int.mul_comm _ _
        omega
      have h4 := lt_of_mul h3 (by have := pw_pos (k / 4); omega)
      have h5 := val_drop_at o (k := k / 4) (by omega)
      have h6 := (val_bd (hO.drop (k / 4 + 1))).1
      omega
    have eor := or32_add bo.1 hlow bx.1 (by omega)
    simp (disch := omega) only [wu64, wu32, wu8, fdiv_nn, EO, ↓EP, EQ, EM, ↓reduceIte, Int.reduceAdd, Int.reduceEq, Int.reduceLE, Int.reduceLT, Int.reduceMul, Int.reduceNeg, Int.reducePow, Int.reduceSub, Int.reduceToNat, Nat.reduceAdd, Nat.reduceEqDiff, Nat.reduceLT, Nat.reduceLeDiff, Nat.reduceMul, reduceCtorEq, h16, q0, q4, q15, cp, co, ei, ej, em, eor]
    intro m1
    refine st_num (hB.nb (Fr.drewN w2 _ nob)) (by omega) fun w4 p4 => ?_
    simp (disch := omega) only [wu64, wu32, wu8, fdiv_nn, EO, ↓EP, EQ, EM, ↓reduceIte, Int.reduceAdd, Int.reduceEq, Int.reduceLE, Int.reduceLT, Int.reduceMul, Int.reduceNeg, Int.reducePow, Int.reduceSub, Int.reduceToNat, Nat.reduceAdd, Nat.reduceEqDiff, Nat.reduceLT, Nat.reduceLeDiff, Nat.reduceMul, reduceCtorEq, h16]
    refine hM (l.length - (k + 1)) _ _ (by omega) ⟨k + 1, _, by simp (disch := omega) only [EO, ↓EP, EQ, EM, ↓reduceIte, Int.reduceAdd, Int.reduceEq, Int.reduceLE, Int.reduceLT, Int.reduceMul, Int.reduceNeg, Int.reducePow, Int.reduceSub, Int.reduceToNat, Nat.reduceAdd, Nat.reduceEqDiff, Nat.reduceLT, Nat.reduceLeDiff, Nat.reduceMul, reduceCtorEq, h16, Int.natCast_add], by omega, rfl, p4.blk, by simpa using ho, hO.set _ (by omega) (by omega), ?_, (f2.nb (Fr.drewN w2 _ nob)).own p4.fr fun x e => by omega⟩
    rw [val_set (by omega), leb_take_succ (by simpa using hkl), at_rev (by omega), hv, hk256]
    grind
  · have hk : k = l.length := by omega
    subst hk
    simp (disch := omega) only [EO, ↓EP, EQ, EM, ↓reduceIte, Int.reduceAdd, Int.reduceEq, Int.reduceLE, Int.reduceLT, Int.reduceMul, Int.reduceNeg, Int.reducePow, Int.reduceSub, Int.reduceToNat, Nat.reduceAdd, Nat.reduceEqDiff, Nat.reduceLT, Nat.reduceLeDiff, Nat.reduceMul, reduceCtorEq, h16, q4, q15]
    rw [List.take_of_length_le (by simp)] at hv
    refine cut_spec ho (blk_rd hB) hO (Nat.le_refl _) (by omega) _ fun m hm he _ => ?_
    rw [hv] at he
    simp (disch := omega) only [EO, ↓EP, EQ, EM, ↓reduceIte, Int.reduceAdd, Int.reduceEq, Int.reduceLE, Int.reduceLT, Int.reduceMul, Int.reduceNeg, Int.reducePow, Int.reduceSub, Int.reduceToNat, Nat.reduceAdd, Nat.reduceEqDiff, Nat.reduceLT, Nat.reduceLeDiff, Nat.reduceMul, reduceCtorEq]
    exact hK _ _ (own_cut hB (Nat.le_refl _) f2 ho hm he)
end Go.Proofs.YtcflokckfjkdpaaDoor.Spec
end
section
set_option linter.unusedVariables false
set_option linter.unusedSimpArgs false
namespace Go.Proofs.YtcflokckfjkdpaaDoor.Der
open Go Go.RowKit Go.Proofs Go.Proofs.YtcflokckfjkdpaaDoor.Eng Go.Proofs.YtcflokckfjkdpaaDoor.Code
set_option maxRecDepth 100000
attribute [local irreducible] callK S.W opsW scrW scrT
def stripZ : List Int → List Int
  | [] => []
  | x :: r => if x = 0 then stripZ r else x :: r
theorem trimb_vw {w : World} {v : Value} {l : List Int} (hv : Vw .u8 w v l) (h63 : l.length ≤ 9223372036854775807) (K : Value → World → Prop)
    (hK : ∀ v', Vw .u8 w v' (stripZ l) → K v' w) : callK Tryd.prog 68 [v, .int .u8 0] w K := by
  obtain ⟨A, c, rfl, hc, hr⟩ := hv
  refine call_of Tryd.func68 Code.h68 (by simp [Code.c68]) ?_
  simp (disch := omega) only [wu64, wu32, wu8, fdiv_nn, EO, ↓EP, EQ, EM, ↓reduceIte, Int.reduceAdd, Int.reduceEq, Int.reduceLE, Int.reduceLT, Int.reduceMul, Int.reduceNeg, Int.reducePow, Int.reduceSub, Int.reduceToNat, Nat.reduceAdd, Nat.reduceEqDiff, Nat.reduceLT, Nat.reduceLeDiff, Nat.reduceMul, reduceCtorEq, Code.c68]
  refine loop_inv (fun t ρ w' => w' = w ∧ ∃ (A' : Option Addr) (c' : Nat) (l' : List Int), ρ 0 = .slice A' l'.length c' ∧ ρ 1 = .int .u8 0 ∧ l'.length ≤ c' ∧ l'.length ≤ l.length ∧ t = l'.length ∧ Rd w A' (nums .u8 l') ∧ stripZ l' = stripZ l) _ ⟨rfl, A, c, l, by simp (disch := omega) only [wu64, wu32, wu8, fdiv_nn, EO, ↓EP, EQ, EM, ↓reduceIte, Int.reduceAdd, Int.reduceEq, Int.reduceLE, Int.reduceLT, Int.reduceMul, Int.reduceNeg, Int.reducePow, Int.reduceSub, Int.reduceToNat, Nat.reduceAdd, Nat.reduceEqDiff, Nat.reduceLT, Nat.reduceLeDiff, Nat.reduceMul, reduceCtorEq], by simp (disch := omega) only [wu64, wu32, wu8, fdiv_nn, EO, ↓EP, EQ, EM, ↓reduceIte, Int.reduceAdd, Int.reduceEq, Int.reduceLE, Int.reduceLT, Int.reduceMul, Int.reduceNeg, Int.reducePow, Int.reduceSub, Int.reduceToNat, Nat.reduceAdd, Nat.reduceEqDiff, Nat.reduceLT, Nat.reduceLeDiff, Nat.reduceMul, reduceCtorEq], hc, Nat.le_refl _, rfl, hr, rfl⟩ ?_
  rintro t ρ w' hf ⟨rfl, A', c', l', h0, h1, hc', hll, rfl, hr', hs⟩ N hN
  clear hf
  by_cases hl : l'.length = 0
  · have : l' = [] := List.length_eq_zero_iff.1 hl
    subst this
    simp (disch := omega) only [wu64, wu32, wu8, fdiv_nn, EO, ↓EP, EQ, EM, ↓reduceIte, Int.reduceAdd, Int.reduceEq, Int.reduceLE, Int.reduceLT, Int.reduceMul, Int.reduceNeg, Int.reducePow, Int.reduceSub, Int.reduceToNat, Nat.reduceAdd, Nat.reduceEqDiff, Nat.reduceLT, Nat.reduceLeDiff, Nat.reduceMul, reduceCtorEq, h0, h1, List.length_nil, Int.natCast_zero]
    rw [← hs] at hK
    exact hK _ (Vw.nil _ _)
  · obtain ⟨ad, rfl, cell⟩ := pos_cells hr' (by omega)
    have c0 := cell 0 (by omega)
    rw [show ((0 : Nat) : Int) = 0 by rfl] at c0
    have hd := drop_at (show 0 < l'.length by omega)
    rw [List.drop_zero, show ((0 : Nat) : Int) = 0 by rfl] at hd
    by_cases hz : at' l' 0 = 0
    · simp (disch := omega) only [wu64, wu32, wu8, fdiv_nn, EO, ↓EP, EQ, EM, ↓reduceIte, Int.reduceAdd, Int.reduceEq, Int.reduceLE, Int.reduceLT, Int.reduceMul, Int.reduceNeg, Int.reducePow, Int.reduceSub, Int.reduceToNat, Nat.reduceAdd, Nat.reduceEqDiff, Nat.reduceLT, Nat.reduceLeDiff, Nat.reduceMul, reduceCtorEq, h0, h1, c0, hz]
      refine hN (l'.length - 1) _ _ (by omega) ⟨rfl, subA (some ad) c' 1 1, c' - 1, l'.drop 1, by simp (disch := omega) only [wu64, wu32, wu8, fdiv_nn, EO, ↓EP, EQ, EM, ↓reduceIte, Int.reduceAdd, Int.reduceEq, Int.reduceLE, Int.reduceLT, Int.reduceMul, Int.reduceNeg, Int.reducePow, Int.reduceSub, Int.reduceToNat, Nat.reduceAdd, Nat.reduceEqDiff, Nat.reduceLT, Nat.reduceLeDiff, Nat.reduceMul, reduceCtorEq, h0, List.length_drop], by simp (disch := omega) only [wu64, wu32, wu8, fdiv_nn, EO, ↓EP, EQ, EM, ↓reduceIte, Int.reduceAdd, Int.reduceEq, Int.reduceLE, Int.reduceLT, Int.reduceMul, Int.reduceNeg, Int.reducePow, Int.reduceSub, Int.reduceToNat, Nat.reduceAdd, Nat.reduceEqDiff, Nat.reduceLT, Nat.reduceLeDiff, Nat.reduceMul, reduceCtorEq, h1], by simp; omega, by simp; omega, by simp, hr'.subA c' 1 hc', ?_⟩
      rw [← hs, hd, stripZ, if_pos hz]; rfl
    · have hzf : (at' l' 0 = 0) = False := eq_false hz
      simp (disch := omega) only [wu64, wu32, wu8, fdiv_nn, EO, ↓EP, EQ, EM, ↓reduceIte, Int.reduceAdd, Int.reduceEq, Int.reduceLE, Int.reduceLT, Int.reduceMul, Int.reduceNeg, Int.reducePow, Int.reduceSub, Int.reduceToNat, Nat.reduceAdd, Nat.reduceEqDiff, Nat.reduceLT, Nat.reduceLeDiff, Nat.reduceMul, reduceCtorEq, h0, h1, c0, hzf]
      rw [← hs, hd, stripZ, if_neg hz, ← hd] at hK
      exact hK _ (Vw.of rfl hc' hr')
theorem eq_z0 (K : Value → Prop) : binK .eql (.string ⟨#[0]⟩) (.string ⟨#[]⟩) K = K (.bool false) := by
  have : ((⟨#[0]⟩ : ByteArray).toList == (⟨#[]⟩ : ByteArray).toList) = false := by decide +kernel
  rw [b_seql, this]
theorem ix_z (K : Value → Prop) : ixsK ⟨#[0]⟩ 0 K = K (.int .u8 0) := propext ⟨fun h => h.2.2, fun h => ⟨by decide, by decide, h⟩⟩
theorem sz_z : (⟨#[0]⟩ : ByteArray).size = 1 := rfl
theorem trim_vw {w : World} {v : Value} {l : List Int} (hv : Vw .u8 w v l) (h63 : l.length ≤ 9223372036854775807) (K : Value → World → Prop)
    (hK : ∀ v', Vw .u8 w v' (stripZ l) → K v' w) : callK Tryd.prog 56 [v, .string ⟨#[0]⟩] w K := by
  have hv0 := hv
  obtain ⟨A, c, rfl, hc, hr⟩ := hv
  refine call_of Tryd.func56 Code.h56 (by simp [Code.c56]) ?_
  by_cases hl : l.length = 0
  · have : l = [] := List.length_eq_zero_iff.1 hl
    subst this
    simp (disch := omega) only [wu64, wu32, wu8, fdiv_nn, EO, ↓EP, EQ, EM, ↓reduceIte, Int.reduceAdd, Int.reduceEq, Int.reduceLE, Int.reduceLT, Int.reduceMul, Int.reduceNeg, Int.reducePow, Int.reduceSub, Int.reduceToNat, Nat.reduceAdd, Nat.reduceEqDiff, Nat.reduceLT, Nat.reduceLeDiff, Nat.reduceMul, reduceCtorEq, Code.c56, List.length_nil, Int.natCast_zero]
    exact hK _ (Vw.nil _ _)
  · simp (disch := omega) only [wu64, wu32, wu8, fdiv_nn, EO, ↓EP, EQ, EM, ↓reduceIte, Int.reduceAdd, Int.reduceEq, Int.reduceLE, Int.reduceLT, Int.reduceMul, Int.reduceNeg, Int.reducePow, Int.reduceSub, Int.reduceToNat, Nat.reduceAdd, Nat.reduceEqDiff, Nat.reduceLT, Nat.reduceLeDiff, Nat.reduceMul, reduceCtorEq, Code.c56, eq_z0, sz_z, Int.natCast_one, ix_z]
    refine trimb_vw hv0 h63 _ fun v' h' => ?_
    simp (disch := omega) only [wu64, wu32, wu8, fdiv_nn, EO, ↓EP, EQ, EM, ↓reduceIte, Int.reduceAdd, Int.reduceEq, Int.reduceLE, Int.reduceLT, Int.reduceMul, Int.reduceNeg, Int.reducePow, Int.reduceSub, Int.reduceToNat, Nat.reduceAdd, Nat.reduceEqDiff, Nat.reduceLT, Nat.reduceLeDiff, Nat.reduceMul, reduceCtorEq]
    exact hK v' h'
def uintR (d : List Int) : List Int × Int := if whole d = false then ([], 6) else if 128 ≤ at' d 0 then ([], 40) else Big.fbR (stripZ d)
theorem stripZ_mem : ∀ (l : List Int), ∀ x ∈ stripZ l, x ∈ l
  | [], x, h => h
  | y :: r, x, h => by
    rw [stripZ] at h
    split at h
    · exact List.mem_cons_of_mem _ (stripZ_mem r x h)
    · exact h
theorem uint_vw {w : World} {v : Value} {d : List Int} (hv : Vw .u8 w v d) (hb : ByteL d) (h63 : d.length ≤ 9223372036854775807) (K : Value → World → Prop)
    (hK : ∀ v' w', Gw .u32 w w' v' (uintR d).1 → K (pr2 v' (uintR d).2) w') : callK Tryd.prog 35 [v] w K := by
  have hv0 := hv
  obtain ⟨A, c, rfl, hc, hr⟩ := hv
  refine call_of Tryd.func35 Code.h35 (by simp [Code.c35]) ?_
  unfold uintR at hK
  simp (disch := omega) only [wu64, wu32, wu8, fdiv_nn, EO, ↓EP, EQ, EM, ↓reduceIte, Int.reduceAdd, Int.reduceEq, Int.reduceLE, Int.reduceLT, Int.reduceMul, Int.reduceNeg, Int.reducePow, Int.reduceSub, Int.reduceToNat, Nat.reduceAdd, Nat.reduceEqDiff, Nat.reduceLT, Nat.reduceLeDiff, Nat.reduceMul, reduceCtorEq, Code.c35]
  refine whole_vw hv0 hb _ ?_
  by_cases hw : whole d = false
  · rw [if_pos hw] at hK
    simp (disch := omega) only [wu64, wu32, wu8, fdiv_nn, EO, ↓EP, EQ, EM, ↓reduceIte, Int.reduceAdd, Int.reduceEq, Int.reduceLE, Int.reduceLT, Int.reduceMul, Int.reduceNeg, Int.reducePow, Int.reduceSub, Int.reduceToNat, Nat.reduceAdd, Nat.reduceEqDiff, Nat.reduceLT, Nat.reduceLeDiff, Nat.reduceMul, reduceCtorEq, hw, Bool.not_false]
    exact hK _ w (Gw.nil _ _)
  rw [if_neg hw] at hK
  have hw' : whole d = true := by simpa using hw
  have h0 : 0 < d.length := by
    apply Nat.pos_of_ne_zero
    intro h
    unfold whole at hw'
    rw [h] at hw'
    simp at hw'
  obtain ⟨ad, rfl, cell⟩ := pos_cells hr h0
  have c0 := cell 0 h0
  have b0 := hb 0
  rw [show ((0 : Nat) : Int) = 0 by rfl] at c0 b0
  have e1 := d8_and128 b0
  by_cases h128 : 128 ≤ at' d 0
  · rw [if_pos h128] at hK
    have e1' : bits .and .u8 (at' d 0) 128 = 128 := by rw [e1]; omega
    simp (disch := omega) only [wu64, wu32, wu8, fdiv_nn, EO, ↓EP, EQ, EM, ↓reduceIte, Int.reduceAdd, Int.reduceEq, Int.reduceLE, Int.reduceLT, Int.reduceMul, Int.reduceNeg, Int.reducePow, Int.reduceSub, Int.reduceToNat, Nat.reduceAdd, Nat.reduceEqDiff, Nat.reduceLT, Nat.reduceLeDiff, Nat.reduceMul, reduceCtorEq, hw', Bool.not_true, c0, e1']
    exact hK _ w (Gw.nil _ _)
  rw [if_neg h128] at hK
  have e1' : bits .and .u8 (at' d 0) 128 = 0 := by rw [e1]; omega
  simp (disch := omega) only [wu64, wu32, wu8, fdiv_nn, EO, ↓EP, EQ, EM, ↓reduceIte, Int.reduceAdd, Int.reduceEq, Int.reduceLE, Int.reduceLT, Int.reduceMul, Int.reduceNeg, Int.reducePow, Int.reduceSub, Int.reduceToNat, Nat.reduceAdd, Nat.reduceEqDiff, Nat.reduceLT, Nat.reduceLeDiff, Nat.reduceMul, reduceCtorEq, hw', Bool.not_true, c0, e1']
  refine trim_vw hv0 h63 _ fun v' h' => ?_
  simp (disch := omega) only [wu64, wu32, wu8, fdiv_nn, EO, ↓EP, EQ, EM, ↓reduceIte, Int.reduceAdd, Int.reduceEq, Int.reduceLE, Int.reduceLT, Int.reduceMul, Int.reduceNeg, Int.reducePow, Int.reduceSub, Int.reduceToNat, Nat.reduceAdd, Nat.reduceEqDiff, Nat.reduceLT, Nat.reduceLeDiff, Nat.reduceMul, reduceCtorEq]
  refine Spec.frombytes_vw h' (fun x hx => byteL_mem hb x (stripZ_mem d x hx)) _ fun v2 w2 g2 => ?_
  simp (disch := omega) only [wu64, wu32, wu8, fdiv_nn, EO, ↓EP, EQ, EM, ↓reduceIte, Int.reduceAdd, Int.reduceEq, Int.reduceLE, Int.reduceLT, Int.reduceMul, Int.reduceNeg, Int.reducePow, Int.reduceSub, Int.reduceToNat, Nat.reduceAdd, Nat.reduceEqDiff, Nat.reduceLT, Nat.reduceLeDiff, Nat.reduceMul, reduceCtorEq]
  exact hK v2 w2 g2
end Go.Proofs.YtcflokckfjkdpaaDoor.Der
end
section
set_option linter.unusedVariables false
set_option linter.unusedSimpArgs false
namespace Go.Proofs.YtcflokckfjkdpaaDoor.Der
open Go Go.RowKit Go.Proofs Go.Proofs.YtcflokckfjkdpaaDoor.Eng Go.Proofs.YtcflokckfjkdpaaDoor.Code
set_option maxRecDepth 100000
attribute [local irreducible] callK S.W opsW scrW scrT
open Go.Sort
structure TbP (w : World) : Prop where
  tab : Lib.TabIs Tryd.prog w "internal/strconv.uint64pow10" .u64 Lib.pow10Tab
  size : 0 < w.heap.size
theorem gP : Tryd.prog.globalNamed "internal/strconv.uint64pow10" = some 0 := by kernel_rfl
theorem TbP.nb {w w' : World} (h : TbP w) (f : Fr w w' nob) : TbP w' := by
  have hs := f.size
  refine ⟨?_, Nat.lt_of_lt_of_le h.size hs⟩
  have h1 := h.tab
  unfold Lib.TabIs World.var? at h1 ⊢
  rw [gP] at h1 ⊢
  simp only [Option.bind_some] at h1 ⊢
  rw [f.block 0 h.size (fun e => e)]
  exact h1
theorem fr_grow (w : World) (k : Nat) (os : Array Obj) : Fr w (grow (w.drewN k) os) nob := by
  refine ⟨?_, fun b hb _ => ?_⟩
  · have := below_drewN' (Below.refl 0 w) k
    exact ⟨this.os, this.tape, this.output, by simp only [grow, Array.size_append]; exact Nat.le_add_right _ _, fun b hb => by omega⟩
  · have e : (grow (w.drewN k) os).heap = w.heap ++ os := rfl
    rw [e, Array.getElem?_append_left hb]
theorem itoa_vw {w : World} {n : Int} (h0 : 0 ≤ n) (h1 : n ≤ 9223372036854775807) (hT : TbP w) (K : Value → World → Prop)
    (hK : ∀ w', Fr w w' nob → K (.string (S (digs n.toNat))) w') : callK Tryd.prog 47 [.int .i64 n] w K := by
  have h := strconv_Itoa n (by omega) h1 w hT.tab
  unfold callK
  refine Calls.mono h ?_
  rintro e w' ⟨rfl, k, os, rfl⟩
  refine ⟨_, rfl, ?_⟩
  rw [itoa_eq h0 (by omega)]
  exact hK _ (fr_grow w k os)
end Go.Proofs.YtcflokckfjkdpaaDoor.Der
end
section
set_option linter.unusedVariables false
namespace Go.Proofs.YtcflokckfjkdpaaDoor.Row
open Go Go.ChangeShapes Go.WideShapes Go.ChangeAt Go.WideMaps Go.WideElems Go.RowKit Go.Proofs.YtcflokckfjkdpaaDoor.Eng
set_option maxRecDepth 100000
section
variable {H : Type} {enc : TypeId × Value → H} {P : Program}
theorem fr_below {W W' : World} (f : Fr W W' nob) : Below W.heap.size W W' := f.below (Nat.le_refl _) fun _ h => h.elim
theorem trodAll_stays (hl : laidOutB P = true) {W W' : World} (hb : Below W.heap.size W W') : ∀ (ts : List TypeId) (vs : List Value) (ds : List (DataW H)) (ps : List MemPlace), (∀ t ∈ ts, P.readableRec t = true ∧ t < P.types.size) →
    DataW.TrodAll enc P W 0 (fun _ => true) true ts vs ds ps → (∀ x ∈ ps, x.block < W.heap.size) → DataW.TrodAll enc P W' 0 (fun b => decide (b < W.heap.size)) true ts vs ds ps
  | [], vs, ds, ps, _, h, _ => by
    obtain ⟨rfl, rfl, rfl⟩ := trodAll_nil h
    exact h
  | t :: ts, vs, ds, ps, hr, h, hlt => by
    obtain ⟨v, vs', d, ds', p, q, rfl, rfl, rfl, hd, hrest⟩ := trodAll_cons h
    exact trodAll_cons_mk (Below.trod hl (hr t (by simp)).1 (hr t (by simp)).2 hd hb fun x hx => hlt x (by simp [hx]))
      (trodAll_stays hl hb ts vs' ds' q (fun u hu => hr u (by simp [hu])) hrest fun x hx => hlt x (by simp [hx]))
theorem lifted_of {C : Checked} {os : Os} {f : FuncId} {fn : Func} {s : ChangeSpec} {X : World → Array Value → Prop} {tb : TypeId} (hX : ∀ (w w' : World) (args : Array Value), w.heap = w'.heap → X w args → X w' args)
    (own : ownKnob C.prog.godebug = none) (started : os.Started) (noInit : C.prog.inits.idxOf? f = none) (hfn : C.prog.funcs[f]? = some fn)
    (witness : ∃ (w : World) (tape : Tape) (i : Input), w.os = os ∧ (w.forCall tape i).Shaped C.prog ∧ i.vars = [] ∧ Input.okWide C.prog (w.forCall tape i) .any w.heap.size f i ∧
      ((s.pre enc C.prog fn [] false (w.forCall tape i).memory i.args ∧ X (w.forCall tape i).memory i.args) ∧ sizedMet enc C.prog fn (OpenSpec.ofChange s) false (w.forCall tape i).memory i.args) ∧ ({} : Assume).holds C.prog (lone (Frame.enter C.prog f i.args .normal) [] (w.forCall tape i)))
    (hl : laidOutB C.prog = true) (hres : fn.resultTypes = #[tb]) (htb : C.prog.underlying tb = some .bool) (hvars : s.vars = []) (hread : ∀ t ∈ fn.params.toList, C.prog.readableRec t = true ∧ t < C.prog.types.size)
    (hspec : ∀ ds : List (DataW H), ds.length = fn.params.size → (s.fn H ds).results = [.lit (.bool true)] ∧ (s.fn H ds).args = ds ∧ (s.fn H ds).vars = [])
    (walk : ∀ (W : World) (base : Nat) (args : Array Value) (ds : List (DataW H)) (p : List MemPlace), DataW.TrodAll enc C.prog W 0 (fun _ => true) true fn.params.toList args.toList ds p →
      (∀ (j : Nat) t v, fn.params[j]? = some t → args[j]? = some v → Value.okWide C.prog W .any base t v) → (DataW.weightsEach C.prog fn.params.toList ds).all (· ≤ reachBytes) = true → X W args →
      callK C.prog f args.toList W fun v w' => v = .bool true ∧ Fr W w' nob) :
    ReturnsInHanded {} C os f .any (fun w args => (s.pre enc C.prog fn [] false w args ∧ X w args) ∧ sizedMet enc C.prog fn (OpenSpec.ofChange s) false w args) (s.post enc C.prog fn false true false false) := by
  refine returnsInHanded_of_change_and (C := C) (X := X) hX own started noInit hfn witness ?_
  intro W base args ds gs before hval hW _ hz hL _
  have hW' := hW
  obtain ⟨p, q, hA, hV, rfl, hfz, hnd⟩ := hW
  rw [hvars] at hV
  obtain ⟨rfl, rfl⟩ := trodVars_none hV
  have hvt : s.plain.varTypes C.prog = [] := by
    have : s.plain.vars = [] := by show s.vars = []; exact hvars
    simp [DataSpec.varTypes, this]
  rw [hvt, List.append_nil, List.append_nil] at hz
  have hlen : ds.length = fn.params.size := by have := (trodAll_length hA).2; simpa using this
  obtain ⟨h1, h2, h3⟩ := hspec ds hlen
  have hlt : ∀ x ∈ p, x.block < W.heap.size := fun x hx => hW'.lt x (by simp [hx])
  have hc := walk W base args ds p hA hval hz hL
  unfold callK at hc
  rw [Array.toArray_toList] at hc
  refine hc.mono fun e W' he => ?_
  obtain ⟨v, rfl, rfl, f⟩ := he
  have bel := fr_below f
  refine ⟨_, rfl, ds, [], p ++ [], [], p, [], hW', ?_, ?_, ?_, bel.frame _, fun h => by cases h⟩
  · rw [List.append_nil, h1, hres]
    exact trodAll_mk1 (shut_bool htb _)
  · rw [List.append_nil, h2]
    exact trodAll_stays hl bel _ _ _ _ hread hA hlt
  · rw [List.append_nil, h3, hvars]
    exact hV
theorem wf_u8 {n : Int} (h : (Lit.int .u8 n).wf = true) : 0 ≤ n ∧ n < 256 := by have := bounds_u8 h; omega
theorem wf_i64 {n : Int} (h : (Lit.int .i64 n).wf = true) : -9223372036854775808 ≤ n ∧ n ≤ 9223372036854775807 := bounds_i64 h
theorem len1 {α : Type} {l : List α} (h : l.length = 1) : ∃ a, l = [a] := by
  match l, h with
  | [a], _ => exact ⟨a, rfl⟩
end
end Go.Proofs.YtcflokckfjkdpaaDoor.Row
end
section
namespace Go.Proofs.YtcflokckfjkdpaaDoor
open Go Go.ChangeShapes Go.WideShapes Go.ChangeAt Go.WideMaps Go.WideElems Go.RowKit Go.Proofs.YtcflokckfjkdpaaDoor.Eng Go.Proofs.YtcflokckfjkdpaaDoor.Spec
set_option maxRecDepth 100000
open Go.Proofs.YtcflokckfjkdpaaDoor.Der
theorem own : ownKnob Tryd.prog.godebug = none := by kernel_rfl
theorem laidOut : laidOutB Tryd.prog = true := by kernel_rfl
theorem cells_u8 : Tryd.prog.cellsOf 5 = 1 := by kernel_rfl
def laid2 : List (String × DataW Unit) := [("math/bits.deBruijn32tab", Rows.laid_math_bits_deBruijn32tab), ("math/bits.deBruijn64tab", Rows.laid_math_bits_deBruijn64tab), ("internal/strconv.uint64pow10", Rows.laid_internal_strconv_uint64pow10), ("unicode/utf8.acceptRanges", Rows.laid_unicode_utf8_acceptRanges), ("unicode/utf8.first", Rows.laid_unicode_utf8_first)]
theorem lay_shaped (os : Os) : (World.laidAll Tryd.prog os laid2).Shaped Tryd.prog := World.shaped_of_ZipB (by kernel_rfl) (by kernel_rfl)
theorem door_met (os : Os) (args : Array Value) : laidMetH Tryd.prog laid2 ((World.laidAll Tryd.prog os laid2).forCall (fun _ _ => 0) ⟨#[], args, []⟩).memory := by
  rw [MakeChecks.laidMetH_plain _ _ _ (by kernel_rfl)]
  exact laidMet_laidAll _ (by kernel_rfl) (by kernel_rfl)
theorem t0 : (Tryd.prog.globals[0]?).map (·.type) = some 168 := by kernel_rfl
theorem d0 : (Rows.laid_internal_strconv_uint64pow10 : DataW Unit) = Lib.tabData .u64 Lib.pow10Tab := by kernel_rfl
theorem of_laid {W : World} (h : laidMetH Tryd.prog laid2 W) : TbP W := by
  rw [MakeChecks.laidMetH_plain _ _ _ (by kernel_rfl)] at h
  obtain ⟨ps, ⟨y0, ty0, cs0, f0, p0, q0, hg0, ht0, hv0, hd0, ⟨y1, ty1, cs1, f1, p1, q1, hg1, ht1, hv1, hd1, ⟨y2, ty2, cs2, f2, p2, q2, hg2, ht2, hv2, hd2, _, _⟩, _⟩, _⟩, _, _⟩ := h
  obtain rfl := Option.some.inj (gP.symm.trans hg2)
  obtain rfl := Option.some.inj (t0.symm.trans ht2)
  rw [d0] at hd2
  have hc := Lib.cells_of_tab Tryd.underlying168 Tryd.underlying84 (by kernel_rfl) (by kernel_rfl) hd2
  refine ⟨?_, ?_⟩
  · unfold Lib.TabIs
    rw [hv2, ← hc]
  · simp only [World.var?, gP, Option.bind_some] at hv2
    cases hh : W.heap[0]? with
    | none => rw [hh] at hv2; simp at hv2
    | some o => exact (Array.getElem?_eq_some_iff.1 hh).1
end Go.Proofs.YtcflokckfjkdpaaDoor
end
section
set_option linter.unusedVariables false
namespace Go.Proofs.YtcflokckfjkdpaaDoor.Row
open Go Go.ChangeShapes Go.WideShapes Go.ChangeAt Go.WideMaps Go.WideElems Go.RowKit Go.Proofs.YtcflokckfjkdpaaDoor.Eng
set_option maxRecDepth 100000
section
variable {H : Type} {enc : TypeId × Value → H} {P : Program}
theorem rd_of_cells {W : World} {a : Addr} {vs : List Value} (h : ∀ i, i < vs.length → W.cell? (a.add i) = vs[i]?) : Rd W (some a) vs := by
  by_cases h0 : vs = []
  · exact .inl h0
  · right
    have hp : 0 < vs.length := List.length_pos_iff.2 h0
    refine ⟨a, rfl, ?_, fun j v hj => ?_⟩
    · have h00 := h 0 hp
      rw [add_zero'] at h00
      rw [List.getElem?_eq_getElem hp] at h00
      unfold World.cell? at h00
      cases hh : W.heap[a.block]? with
      | none => rw [hh] at h00; simp at h00
      | some o => exact (Array.getElem?_eq_some_iff.1 hh).1
    · rw [h j (List.getElem?_eq_some_iff.1 hj).1, hj]
theorem cell_sl {W : World} {e e1 : TypeId} {k : IntKind} {fuel : Nat} {cs : List Value} {y : DataW H × List MemPlace} (he : P.underlying e = some (.slice e1)) (he1 : P.underlying e1 = some (.int k)) (hc1 : P.cellsOf e1 = 1)
    (h : DataW.trod enc P W 0 (fun _ => true) true fuel e cs = some y) : ∃ (B : Option Addr) (c' : Nat) (p : List Int), cs = [.slice B p.length c'] ∧ p.length ≤ c' ∧ Rd W B (nums k p) ∧ (∀ n ∈ p, (Lit.int k n).wf = true) ∧ p.length ≤ maxLen := by
  rcases open_ints he he1 hc1 h with ⟨rfl, rfl⟩ | ⟨a, len, cap, zs, rfl, _, hl, hm, hz, hx, hcell, hwz⟩
  · exact ⟨none, 0, [], rfl, Nat.le_refl _, .inl rfl, (fun n hn => by cases hn), Nat.zero_le _⟩
  · simp only [if_true] at hz
    have hlen : (zs.take len).length = len := by simp; omega
    refine ⟨some a, cap, zs.take len, by rw [hlen], by omega, rd_of_cells fun i hi => ?_, fun n hn => hwz n (List.mem_of_mem_take hn), by omega⟩
    rw [nums_length, hlen] at hi
    rw [hcell i (by omega), nums_get (by omega)]
    congr 2
    rw [List.getD_eq_getElem?_getD, List.getD_eq_getElem?_getD, List.getElem?_take, if_pos hi]
end
end Go.Proofs.YtcflokckfjkdpaaDoor.Row
end
section
set_option linter.unusedVariables false
namespace Go.Proofs.YtcflokckfjkdpaaDoor.Row
open Go Go.ChangeShapes Go.WideShapes Go.ChangeAt Go.WideMaps Go.WideElems Go.RowKit Go.Proofs.YtcflokckfjkdpaaDoor.Eng
set_option maxRecDepth 100000
section
variable {H : Type} {enc : TypeId × Value → H} {P : Program}
theorem mapM_len {α β : Type} {f : α → Option β} : ∀ {l : List α} {r : List β}, l.mapM f = some r → r.length = l.length ∧ ∀ i (h : i < l.length), ∃ y, r[i]? = some y ∧ f l[i] = some y
  | [], r, h => by simp at h; subst h; exact ⟨rfl, fun i h => by simp at h⟩
  | x :: l, r, h => by
    simp only [List.mapM_cons, Option.bind_eq_bind, Option.bind_eq_some_iff, Option.pure_def, Option.some.injEq] at h
    obtain ⟨y, hy, ys, hys, rfl⟩ := h
    obtain ⟨h1, h2⟩ := mapM_len hys
    refine ⟨by simp [h1], fun i hi => ?_⟩
    cases i with
    | zero => exact ⟨y, rfl, hy⟩
    | succ i => simpa using h2 i (by simpa using hi)
theorem cells_of {W : World} {a : Addr} {n : Nat} {cs : List Value} (h : W.cells? 0 a n = some cs) : cs.length = n ∧ ∀ j v, cs[j]? = some v → W.cell? (a.add j) = some v := by
  unfold World.cells? at h
  rw [if_pos (Nat.zero_le _)] at h
  obtain ⟨h1, h2⟩ := mapM_len h
  rw [List.length_range] at h1
  refine ⟨h1, fun j v hv => ?_⟩
  have hj : j < n := by
    have := (List.getElem?_eq_some_iff.1 hv).1
    omega
  obtain ⟨y, hy, hf⟩ := h2 j (by simpa using hj)
  rw [List.getElem_range] at hf
  rw [hy] at hv
  cases hv
  exact hf
theorem addr_add' (p : Addr) (i j : Nat) : (p.add i).add j = p.add (i + j) := by
  by_cases hi : i = 0
  · subst hi; simp [Addr.add]
  · by_cases hj : j = 0
    · subst hj; simp [Addr.add]
    · simp [Addr.add, hi, hj, Nat.add_assoc]
theorem open_recs {W : World} {base : Nat} {t e : TypeId} {k : Nat} {v : Value} {d : DataW H} {p : List MemPlace} (ht : P.underlying t = some (.slice e)) (hc : P.cellsOf e = k)
    (hval : Value.okWide P W .any base t v) (h : DataW.Trod enc P W 0 (fun _ => true) true t v d p) :
    ∃ (A : Option Addr) (n c : Nat), v = .slice A n c ∧ n ≤ c ∧ n ≤ maxLen ∧ (n = 0 ∨ ∃ a, A = some a ∧ ∀ i, i < n → ∃ (cs : List Value) (fuel : Nat) (y : DataW H × List MemPlace), cs.length = k ∧ (∀ j v, cs[j]? = some v → W.cell? (a.add (i * k + j)) = some v) ∧ DataW.trod enc P W 0 (fun _ => true) true fuel e cs = some y) := by
  obtain ⟨a1, len, cap, rfl⟩ := okWide_slice ht hval
  obtain ⟨fuel, hf⟩ := h
  rcases DataW.trod_slice ht hf with ⟨hcs, hx⟩ | ⟨a, len', cap', elems, rest, n, _, hcs, hx, _, hl, hm, hlen, hel, _, _⟩
  · simp [Value.cells] at hcs
    obtain ⟨rfl, rfl, rfl⟩ := hcs
    exact ⟨none, 0, 0, rfl, Nat.le_refl _, Nat.zero_le _, .inl rfl⟩
  · simp [Value.cells] at hcs
    obtain ⟨rfl, rfl, rfl⟩ := hcs
    refine ⟨some a, len, cap, rfl, hl, by omega, .inr ⟨a, rfl, fun i hi => ?_⟩⟩
    have h1 := hel i hi
    rw [List.getElem?_eq_getElem (by omega), hc, Option.bind_eq_some_iff] at h1
    obtain ⟨cs, hcs, hy⟩ := h1
    obtain ⟨h2, h3⟩ := cells_of hcs
    refine ⟨cs, n, _, h2, fun j v hv => ?_, hy⟩
    have := h3 j v hv
    rwa [addr_add'] at this
theorem open_rec5 {W : World} {e : TypeId} {f0 f1 f2 f3 f4 : Field} {fuel : Nat} {cs : List Value} {y : DataW H × List MemPlace} (he : P.underlying e = some (.struct #[f0, f1, f2, f3, f4])) (hl : cs.length = 5)
    (o0 : f0.offset = 0) (o1 : f1.offset = 1) (o2 : f2.offset = 2) (o3 : f3.offset = 3) (o4 : f4.offset = 4) (c0 : P.cellsOf f0.type = 1) (c1 : P.cellsOf f1.type = 1) (c2 : P.cellsOf f2.type = 1) (c3 : P.cellsOf f3.type = 1) (c4 : P.cellsOf f4.type = 1)
    (h : DataW.trod enc P W 0 (fun _ => true) true fuel e cs = some y) : ∃ (v0 v1 v2 v3 v4 : Value) (n : Nat) (y0 y1 y2 y3 y4 : DataW H × List MemPlace), cs = [v0, v1, v2, v3, v4] ∧
      DataW.trod enc P W 0 (fun _ => true) true n f0.type [v0] = some y0 ∧ DataW.trod enc P W 0 (fun _ => true) true n f1.type [v1] = some y1 ∧ DataW.trod enc P W 0 (fun _ => true) true n f2.type [v2] = some y2 ∧ DataW.trod enc P W 0 (fun _ => true) true n f3.type [v3] = some y3 ∧ DataW.trod enc P W 0 (fun _ => true) true n f4.type [v4] = some y4 := by
  obtain ⟨xs, n, _, rfl, hcl, hlen, hf⟩ := DataW.trod_struct he h
  match cs, hl, xs, hlen with
  | [v0, v1, v2, v3, v4], _, [y0, y1, y2, y3, y4], _ =>
    have g0 := hf 0 f0 rfl
    have g1 := hf 1 f1 rfl
    have g2 := hf 2 f2 rfl
    have g3 := hf 3 f3 rfl
    have g4 := hf 4 f4 rfl
    rw [o0, c0] at g0
    rw [o1, c1] at g1
    rw [o2, c2] at g2
    rw [o3, c3] at g3
    rw [o4, c4] at g4
    exact ⟨v0, v1, v2, v3, v4, n, y0, y1, y2, y3, y4, rfl, g0, g1, g2, g3, g4⟩
theorem cell_int {W : World} {t : TypeId} {k : IntKind} {fuel : Nat} {v : Value} {y : DataW H × List MemPlace} (ht : P.underlying t = some (.int k)) (h : DataW.trod enc P W 0 (fun _ => true) true fuel t [v] = some y) : ∃ n, v = .int k n ∧ (Lit.int k n).wf = true := by
  obtain ⟨n, h1, _, h2⟩ := DataW.trod_int ht h
  cases h1
  exact ⟨n, rfl, h2⟩
theorem cell_bool {W : World} {t : TypeId} {fuel : Nat} {v : Value} {y : DataW H × List MemPlace} (ht : P.underlying t = some .bool) (h : DataW.trod enc P W 0 (fun _ => true) true fuel t [v] = some y) : ∃ b, v = .bool b := by
  obtain ⟨b, h1, _⟩ := DataW.trod_bool ht h
  cases h1
  exact ⟨b, rfl⟩
theorem cell_slv {W : World} {t e1 : TypeId} {k : IntKind} {fuel : Nat} {v : Value} {y : DataW H × List MemPlace} (ht : P.underlying t = some (.slice e1)) (he1 : P.underlying e1 = some (.int k)) (hc1 : P.cellsOf e1 = 1) (h : DataW.trod enc P W 0 (fun _ => true) true fuel t [v] = some y) :
    ∃ (B : Option Addr) (c' : Nat) (p : List Int), v = .slice B p.length c' ∧ p.length ≤ c' ∧ Rd W B (nums k p) ∧ (∀ n ∈ p, (Lit.int k n).wf = true) ∧ p.length ≤ maxLen := by
  obtain ⟨B, c', p, h1, h2⟩ := cell_sl ht he1 hc1 h
  cases h1
  exact ⟨B, c', p, rfl, h2⟩
end
end Go.Proofs.YtcflokckfjkdpaaDoor.Row
end
section
set_option linter.unusedVariables false
set_option linter.unusedSimpArgs false
namespace Go.Proofs.YtcflokckfjkdpaaDoor.Der
open Go Go.RowKit Go.Proofs Go.Proofs.YtcflokckfjkdpaaDoor.Eng Go.Proofs.YtcflokckfjkdpaaDoor.Code
set_option maxRecDepth 100000
attribute [local irreducible] callK S.W opsW scrW scrT
theorem eqE (s : List UInt8) : ((S s).toList == (⟨#[]⟩ : ByteArray).toList) = decide (s = []) := by
  rw [S_toList, ← S_nil, S_toList]
  cases s <;> rfl
theorem dot_add (x : List UInt8) : (⟨#[46]⟩ : ByteArray) ++ S x = S (46 :: x) := by rw [← S_dot, S_append]; rfl
theorem dot_size : (⟨#[46]⟩ : ByteArray).size = 1 := rfl
theorem satA_bd {v : Int} (h : 0 ≤ v) : 0 ≤ satA v ∧ satA v ≤ 1099511627776 := by unfold satA; split <;> omega
theorem u64_or7' {n c : Int} (hn : 0 ≤ n) (hn' : n < 1000000000000000) (hc : 0 ≤ c) (hc' : c < 128) : bits .or .u64 (n * 128) c = n * 128 + c := by
  exact u64_or7 (n := n) hn (by omega) hc hc'
def prs (r : List UInt8 × Int) : Value := .tuple #[.string (S r.1), .int .i64 r.2]
set_option maxHeartbeats 2000000 in
theorem oid_vw {w : World} {v : Value} {d : List Int} (hv : Vw .u8 w v d) (hb : ByteL d) (hT : TbP w) (hm : d.length ≤ 1073741824) (K : Value → World → Prop)
    (hK : ∀ w', Fr w w' nob → K (prs (oidR d)) w') : callK Tryd.prog 21 [v] w K := by
  obtain ⟨A, c, rfl, hc, hr⟩ := hv
  refine call_of Tryd.func21 Code.h21 (by simp [Code.c21]) ?_
  unfold oidR at hK
  by_cases h0 : d.length = 0
  · rw [if_pos (.inl h0)] at hK
    simp (disch := omega) only [wu64, wu32, wu8, fdiv_nn, EO, ↓EP, EQ, EM, ↓reduceIte, Int.reduceAdd, Int.reduceEq, Int.reduceLE, Int.reduceLT, Int.reduceMul, Int.reduceNeg, Int.reducePow, Int.reduceSub, Int.reduceToNat, Nat.reduceAdd, Nat.reduceEqDiff, Nat.reduceLT, Nat.reduceLeDiff, Nat.reduceMul, reduceCtorEq, Code.c21, h0, Int.natCast_zero]
    exact hK w (Fr.refl _ _)
  obtain ⟨ad, rfl, cell⟩ := pos_cells hr (by omega)
  have cl := cell (d.length - 1) (by omega)
  have bl := hb (d.length - 1)
  have el : ((d.length - 1 : Nat) : Int) = (d.length : Int) - 1 := by omega
  have elt : ((d.length : Int) - 1).toNat = d.length - 1 := by omega
  rw [el] at cl bl hK
  by_cases hl : 128 ≤ at' d ((d.length : Int) - 1)
  · rw [if_pos (.inr hl)] at hK
    simp (disch := omega) only [wu64, wu32, wu8, fdiv_nn, EO, ↓EP, EQ, EM, ↓reduceIte, Int.reduceAdd, Int.reduceEq, Int.reduceLE, Int.reduceLT, Int.reduceMul, Int.reduceNeg, Int.reducePow, Int.reduceSub, Int.reduceToNat, Nat.reduceAdd, Nat.reduceEqDiff, Nat.reduceLT, Nat.reduceLeDiff, Nat.reduceMul, reduceCtorEq, Code.c21, elt, cl]
    exact hK w (Fr.refl _ _)
  rw [if_neg (fun h => by rcases h with h | h; exact h0 h; exact hl h)] at hK
  simp (disch := omega) only [wu64, wu32, wu8, fdiv_nn, EO, ↓EP, EQ, EM, ↓reduceIte, Int.reduceAdd, Int.reduceEq, Int.reduceLE, Int.reduceLT, Int.reduceMul, Int.reduceNeg, Int.reducePow, Int.reduceSub, Int.reduceToNat, Nat.reduceAdd, Nat.reduceEqDiff, Nat.reduceLT, Nat.reduceLeDiff, Nat.reduceMul, reduceCtorEq, Code.c21, elt, cl]
  refine loop_inv (fun t ρ w' => w' = w ∧ ∃ i : Nat, ρ 25 = .int .i64 i ∧ i ≤ d.length ∧ t = d.length - i ∧ padGo (decide (i = 0 ∨ at' d ((i : Int) - 1) < 128)) (d.drop i) = padGo true d) d.length ⟨rfl, 0, by simp (disch := omega) only [wu64, wu32, wu8, fdiv_nn, EO, ↓EP, EQ, EM, ↓reduceIte, Int.reduceAdd, Int.reduceEq, Int.reduceLE, Int.reduceLT, Int.reduceMul, Int.reduceNeg, Int.reducePow, Int.reduceSub, Int.reduceToNat, Nat.reduceAdd, Nat.reduceEqDiff, Nat.reduceLT, Nat.reduceLeDiff, Nat.reduceMul, reduceCtorEq], by omega, by omega, by simp⟩ ?_
  rintro t ρ w' hf ⟨rfl, i, h25, hi, rfl, hgo⟩ N hN
  have r0 : ρ 0 = .slice (some ad) d.length c := by rw [hf 0 rfl]; simp (disch := omega) only [wu64, wu32, wu8, fdiv_nn, EO, ↓EP, EQ, EM, ↓reduceIte, Int.reduceAdd, Int.reduceEq, Int.reduceLE, Int.reduceLT, Int.reduceMul, Int.reduceNeg, Int.reducePow, Int.reduceSub, Int.reduceToNat, Nat.reduceAdd, Nat.reduceEqDiff, Nat.reduceLT, Nat.reduceLeDiff, Nat.reduceMul, reduceCtorEq]
  have r23 : ρ 23 = .slice (some ad) d.length c := by rw [hf 23 rfl]; simp (disch := omega) only [wu64, wu32, wu8, fdiv_nn, EO, ↓EP, EQ, EM, ↓reduceIte, Int.reduceAdd, Int.reduceEq, Int.reduceLE, Int.reduceLT, Int.reduceMul, Int.reduceNeg, Int.reducePow, Int.reduceSub, Int.reduceToNat, Nat.reduceAdd, Nat.reduceEqDiff, Nat.reduceLT, Nat.reduceLeDiff, Nat.reduceMul, reduceCtorEq]
  have r24 : ρ 24 = .int .i64 d.length := by rw [hf 24 rfl]; simp (disch := omega) only [wu64, wu32, wu8, fdiv_nn, EO, ↓EP, EQ, EM, ↓reduceIte, Int.reduceAdd, Int.reduceEq, Int.reduceLE, Int.reduceLT, Int.reduceMul, Int.reduceNeg, Int.reducePow, Int.reduceSub, Int.reduceToNat, Nat.reduceAdd, Nat.reduceEqDiff, Nat.reduceLT, Nat.reduceLeDiff, Nat.reduceMul, reduceCtorEq]
  clear hf
  by_cases hil : (i : Int) < (d.length : Int)
  · have ci := cell i (by omega)
    have bi := hb i
    rw [drop_at (show i < d.length by omega), padGo] at hgo
    by_cases h128 : at' d (i : Int) = 128
    · by_cases hi0 : i = 0
      · subst hi0
        rw [h128, decide_eq_true rfl, decide_eq_true (.inl rfl), Bool.and_self, Bool.true_or] at hgo
        rw [if_pos hgo.symm] at hK
        rw [h128] at ci
        simp (disch := omega) only [wu64, wu32, wu8, fdiv_nn, EO, ↓EP, EQ, EM, ↓reduceIte, Int.reduceAdd, Int.reduceEq, Int.reduceLE, Int.reduceLT, Int.reduceMul, Int.reduceNeg, Int.reducePow, Int.reduceSub, Int.reduceToNat, Nat.reduceAdd, Nat.reduceEqDiff, Nat.reduceLT, Nat.reduceLeDiff, Nat.reduceMul, reduceCtorEq, W_join, h25, r0, r23, r24, ci, Int.natCast_zero]
        exact hK w' (Fr.refl _ _)
      · have cj := cell (i - 1) (by omega)
        have bj := hb (i - 1)
        have ej : ((i - 1 : Nat) : Int) = (i : Int) - 1 := by omega
        have ejt : ((i : Int) - 1).toNat = i - 1 := by omega
        rw [ej] at cj bj
        by_cases hj : at' d ((i : Int) - 1) < 128
        · rw [h128, decide_eq_true rfl, decide_eq_true (.inr hj), Bool.and_self, Bool.true_or] at hgo
          rw [if_pos hgo.symm] at hK
          rw [h128] at ci
          simp (disch := omega) only [wu64, wu32, wu8, fdiv_nn, EO, ↓EP, EQ, EM, ↓reduceIte, Int.reduceAdd, Int.reduceEq, Int.reduceLE, Int.reduceLT, Int.reduceMul, Int.reduceNeg, Int.reducePow, Int.reduceSub, Int.reduceToNat, Nat.reduceAdd, Nat.reduceEqDiff, Nat.reduceLT, Nat.reduceLeDiff, Nat.reduceMul, reduceCtorEq, W_join, h25, r0, r23, r24, ci, cj, ejt]
          exact hK w' (Fr.refl _ _)
        · rw [decide_eq_false (show ¬ (i = 0 ∨ at' d ((i : Int) - 1) < 128) from fun h => by rcases h with h | h; exact hi0 h; exact hj h), Bool.and_false, Bool.false_or] at hgo
          have hst : padGo (decide (i + 1 = 0 ∨ at' d (((i + 1 : Nat) : Int) - 1) < 128)) (d.drop (i + 1)) = padGo true d := by
            rw [← hgo]
            congr 1
            have e1 : ((i + 1 : Nat) : Int) - 1 = (i : Int) := by omega
            rw [e1]
            exact decide_eq_decide.2 ⟨fun h => by rcases h with h | h; omega; exact h, .inr⟩
          rw [h128] at ci
          simp (disch := omega) only [wu64, wu32, wu8, fdiv_nn, EO, ↓EP, EQ, EM, ↓reduceIte, Int.reduceAdd, Int.reduceEq, Int.reduceLE, Int.reduceLT, Int.reduceMul, Int.reduceNeg, Int.reducePow, Int.reduceSub, Int.reduceToNat, Nat.reduceAdd, Nat.reduceEqDiff, Nat.reduceLT, Nat.reduceLeDiff, Nat.reduceMul, reduceCtorEq, W_join, h25, r0, r23, r24, ci, cj, ejt]
          exact hN (d.length - (i + 1)) _ _ (by omega) ⟨rfl, i + 1, by simp (disch := omega) only [wu64, wu32, wu8, fdiv_nn, EO, ↓EP, EQ, EM, ↓reduceIte, Int.reduceAdd, Int.reduceEq, Int.reduceLE, Int.reduceLT, Int.reduceMul, Int.reduceNeg, Int.reducePow, Int.reduceSub, Int.reduceToNat, Nat.reduceAdd, Nat.reduceEqDiff, Nat.reduceLT, Nat.reduceLeDiff, Nat.reduceMul, reduceCtorEq, h25, Int.natCast_add], by omega, rfl, hst⟩
    · rw [decide_eq_false h128, Bool.false_and, Bool.false_or] at hgo
      have hst : padGo (decide (i + 1 = 0 ∨ at' d (((i + 1 : Nat) : Int) - 1) < 128)) (d.drop (i + 1)) = padGo true d := by
        rw [← hgo]
        congr 1
        have e1 : ((i + 1 : Nat) : Int) - 1 = (i : Int) := by omega
        rw [e1]
        exact decide_eq_decide.2 ⟨fun h => by rcases h with h | h; omega; exact h, .inr⟩
      simp (disch := omega) only [wu64, wu32, wu8, fdiv_nn, EO, ↓EP, EQ, EM, ↓reduceIte, Int.reduceAdd, Int.reduceEq, Int.reduceLE, Int.reduceLT, Int.reduceMul, Int.reduceNeg, Int.reducePow, Int.reduceSub, Int.reduceToNat, Nat.reduceAdd, Nat.reduceEqDiff, Nat.reduceLT, Nat.reduceLeDiff, Nat.reduceMul, reduceCtorEq, W_join, h25, r0, r23, r24, ci]
      exact hN (d.length - (i + 1)) _ _ (by omega) ⟨rfl, i + 1, by simp (disch := omega) only [wu64, wu32, wu8, fdiv_nn, EO, ↓EP, EQ, EM, ↓reduceIte, Int.reduceAdd, Int.reduceEq, Int.reduceLE, Int.reduceLT, Int.reduceMul, Int.reduceNeg, Int.reducePow, Int.reduceSub, Int.reduceToNat, Nat.reduceAdd, Nat.reduceEqDiff, Nat.reduceLT, Nat.reduceLeDiff, Nat.reduceMul, reduceCtorEq, h25, Int.natCast_add], by omega, rfl, hst⟩
  have hie : i = d.length := by omega
  subst hie
  rw [List.drop_length, padGo] at hgo
  rw [if_neg (by rw [← hgo]; simp)] at hK
  clear hgo hN
  simp (disch := omega) only [wu64, wu32, wu8, fdiv_nn, EO, ↓EP, EQ, EM, ↓reduceIte, Int.reduceAdd, Int.reduceEq, Int.reduceLE, Int.reduceLT, Int.reduceMul, Int.reduceNeg, Int.reducePow, Int.reduceSub, Int.reduceToNat, Nat.reduceAdd, Nat.reduceEqDiff, Nat.reduceLT, Nat.reduceLeDiff, Nat.reduceMul, reduceCtorEq, W_join, h25, r0, r23, r24]
  refine loop_inv (fun t ρ w2 => Fr w' w2 nob ∧ ∃ (j : Nat) (x : Int) (s : List UInt8), ρ 47 = .int .i64 j ∧ ρ 7 = .int .u64 x ∧ ρ 6 = .string (S s) ∧ j ≤ d.length ∧ t = d.length - j ∧ 0 ≤ x ∧ x ≤ 1099511627776 ∧ s.length ≤ 64 * j ∧ oidGo (d.drop j) x s = oidGo d 0 []) d.length ⟨Fr.refl _ _, 0, 0, [], by simp (disch := omega) only [wu64, wu32, wu8, fdiv_nn, EO, ↓EP, EQ, EM, ↓reduceIte, Int.reduceAdd, Int.reduceEq, Int.reduceLE, Int.reduceLT, Int.reduceMul, Int.reduceNeg, Int.reducePow, Int.reduceSub, Int.reduceToNat, Nat.reduceAdd, Nat.reduceEqDiff, Nat.reduceLT, Nat.reduceLeDiff, Nat.reduceMul, reduceCtorEq], by simp (disch := omega) only [wu64, wu32, wu8, fdiv_nn, EO, ↓EP, EQ, EM, ↓reduceIte, Int.reduceAdd, Int.reduceEq, Int.reduceLE, Int.reduceLT, Int.reduceMul, Int.reduceNeg, Int.reducePow, Int.reduceSub, Int.reduceToNat, Nat.reduceAdd, Nat.reduceEqDiff, Nat.reduceLT, Nat.reduceLeDiff, Nat.reduceMul, reduceCtorEq], by simp (disch := omega) only [wu64, wu32, wu8, fdiv_nn, EO, ↓EP, EQ, EM, ↓reduceIte, Int.reduceAdd, Int.reduceEq, Int.reduceLE, Int.reduceLT, Int.reduceMul, Int.reduceNeg, Int.reducePow, Int.reduceSub, Int.reduceToNat, Nat.reduceAdd, Nat.reduceEqDiff, Nat.reduceLT, Nat.reduceLeDiff, Nat.reduceMul, reduceCtorEq, S_nil], by omega, by omega, by omega, by omega, by simp, rfl⟩ ?_
  rintro t ρ w2 hf ⟨fr, j, x, s, h47, h7, h6, hj, rfl, hx, hx', hs, hgo⟩ N hN
  have r45 : ρ 45 = .slice (some ad) d.length c := by rw [hf 45 rfl]; simp (disch := omega) only [wu64, wu32, wu8, fdiv_nn, EO, ↓EP, EQ, EM, ↓reduceIte, Int.reduceAdd, Int.reduceEq, Int.reduceLE, Int.reduceLT, Int.reduceMul, Int.reduceNeg, Int.reducePow, Int.reduceSub, Int.reduceToNat, Nat.reduceAdd, Nat.reduceEqDiff, Nat.reduceLT, Nat.reduceLeDiff, Nat.reduceMul, reduceCtorEq, r0]
  have r46 : ρ 46 = .int .i64 d.length := by rw [hf 46 rfl]; simp (disch := omega) only [wu64, wu32, wu8, fdiv_nn, EO, ↓EP, EQ, EM, ↓reduceIte, Int.reduceAdd, Int.reduceEq, Int.reduceLE, Int.reduceLT, Int.reduceMul, Int.reduceNeg, Int.reducePow, Int.reduceSub, Int.reduceToNat, Nat.reduceAdd, Nat.reduceEqDiff, Nat.reduceLT, Nat.reduceLeDiff, Nat.reduceMul, reduceCtorEq, r0]
  clear hf
  by_cases hjl : (j : Int) < (d.length : Int)
  · have cj : w2.cell? (ad.add j) = some (.int .u8 (at' d (j : Int))) := by
      obtain ⟨ad', e', _, hcl⟩ := (hr.nb fr).get (by rw [nums_length]; omega)
      cases e'
      exact hcl.numN (by omega)
    have bj := hb j
    have e127 := d8_and127 bj
    rw [drop_at (show j < d.length by omega), oidGo] at hgo
    have hor := u64_or7' (n := x) (c := at' d (j : Int) % 128) hx (by omega) (by omega) (by omega)
    have sb := satA_bd (v := x * 128 + at' d (j : Int) % 128) (by omega)
    have hst : (if 1099511627776 < x * 128 + at' d (j : Int) % 128 then (1099511627776 : Int) else x * 128 + at' d (j : Int) % 128) = satA (x * 128 + at' d (j : Int) % 128) := rfl
    by_cases h128 : 128 ≤ at' d (j : Int)
    · rw [if_pos h128] at hgo
      simp (disch := omega) only [wu64, wu32, wu8, fdiv_nn, EO, ↓EP, EQ, EM, ↓reduceIte, Int.reduceAdd, Int.reduceEq, Int.reduceLE, Int.reduceLT, Int.reduceMul, Int.reduceNeg, Int.reducePow, Int.reduceSub, Int.reduceToNat, Nat.reduceAdd, Nat.reduceEqDiff, Nat.reduceLT, Nat.reduceLeDiff, Nat.reduceMul, reduceCtorEq, W_join, h47, h7, r45, r46, cj, e127, hor]
      exact hN (d.length - (j + 1)) _ _ (by omega) ⟨fr, j + 1, _, s, by simp (disch := omega) only [wu64, wu32, wu8, fdiv_nn, EO, ↓EP, EQ, EM, ↓reduceIte, Int.reduceAdd, Int.reduceEq, Int.reduceLE, Int.reduceLT, Int.reduceMul, Int.reduceNeg, Int.reducePow, Int.reduceSub, Int.reduceToNat, Nat.reduceAdd, Nat.reduceEqDiff, Nat.reduceLT, Nat.reduceLeDiff, Nat.reduceMul, reduceCtorEq, h47, Int.natCast_add], by simp (disch := omega) only [wu64, wu32, wu8, fdiv_nn, EO, ↓EP, EQ, EM, ↓reduceIte, Int.reduceAdd, Int.reduceEq, Int.reduceLE, Int.reduceLT, Int.reduceMul, Int.reduceNeg, Int.reducePow, Int.reduceSub, Int.reduceToNat, Nat.reduceAdd, Nat.reduceEqDiff, Nat.reduceLT, Nat.reduceLeDiff, Nat.reduceMul, reduceCtorEq, hst], by simp (disch := omega) only [wu64, wu32, wu8, fdiv_nn, EO, ↓EP, EQ, EM, ↓reduceIte, Int.reduceAdd, Int.reduceEq, Int.reduceLE, Int.reduceLT, Int.reduceMul, Int.reduceNeg, Int.reducePow, Int.reduceSub, Int.reduceToNat, Nat.reduceAdd, Nat.reduceEqDiff, Nat.reduceLT, Nat.reduceLeDiff, Nat.reduceMul, reduceCtorEq, h6], by omega, rfl, sb.1, sb.2, by omega, hgo⟩
    rw [if_neg h128] at hgo
    generalize satA (x * 128 + at' d (j : Int) % 128) = y at hgo sb hst
    by_cases hs0 : s = []
    · rw [if_pos hs0] at hgo
      have ht0 := tdiv_nn (b := 40) sb.1
      have hmin : (if 2 < y / 40 then (2 : Int) else y / 40) = min (y / 40) 2 := by split <;> omega
      have hs0' : decide (s = []) = true := decide_eq_true hs0
      have hwu : IntKind.u64.wrap (y / 40) = y / 40 := wu64 (by omega) (by omega)
      have hmb : 0 ≤ min (y / 40) 2 ∧ min (y / 40) 2 ≤ 2 ∧ 40 * min (y / 40) 2 ≤ y := by omega
      generalize min (y / 40) 2 = z at hgo hmin hmb
      have hwz : IntKind.i64.wrap z = z := w64 (by omega) (by omega)
      have hwy : IntKind.u64.wrap (y - IntKind.u64.wrap (40 * z)) = y - 40 * z := by
        rw [wu64 (n := 40 * z) (by omega) (by omega), wu64 (by omega) (by omega)]
      simp (disch := omega) only [wu64, wu32, wu8, fdiv_nn, EO, ↓EP, EQ, EM, ↓reduceIte, Int.reduceAdd, Int.reduceEq, Int.reduceLE, Int.reduceLT, Int.reduceMul, Int.reduceNeg, Int.reducePow, Int.reduceSub, Int.reduceToNat, Nat.reduceAdd, Nat.reduceEqDiff, Nat.reduceLT, Nat.reduceLeDiff, Nat.reduceMul, reduceCtorEq, W_join, h47, h7, h6, r45, r46, cj, e127, hor, hst, b_seql, eqE, hs0', ht0, hwu, hmin, hwz]
      refine itoa_vw hmb.1 (by omega) (hT.nb fr) _ fun w3 f3 => ?_
      have l1 := digs_len z.toNat
      by_cases hbig : 2147483647 < y - 40 * z
      · rw [if_pos hbig] at hgo
        rw [← hgo] at hK
        simp (disch := omega) only [wu64, wu32, wu8, fdiv_nn, EO, ↓EP, EQ, EM, ↓reduceIte, Int.reduceAdd, Int.reduceEq, Int.reduceLE, Int.reduceLT, Int.reduceMul, Int.reduceNeg, Int.reducePow, Int.reduceSub, Int.reduceToNat, Nat.reduceAdd, Nat.reduceEqDiff, Nat.reduceLT, Nat.reduceLeDiff, Nat.reduceMul, reduceCtorEq, W_join, ht0, hwu, hmin, hwy, hbig]
        exact hK w3 (fr.nb f3)
      · rw [if_neg hbig] at hgo
        have hwi : IntKind.i64.wrap (y - 40 * z) = y - 40 * z := w64 (by omega) (by omega)
        simp (disch := omega) only [wu64, wu32, wu8, fdiv_nn, EO, ↓EP, EQ, EM, ↓reduceIte, Int.reduceAdd, Int.reduceEq, Int.reduceLE, Int.reduceLT, Int.reduceMul, Int.reduceNeg, Int.reducePow, Int.reduceSub, Int.reduceToNat, Nat.reduceAdd, Nat.reduceEqDiff, Nat.reduceLT, Nat.reduceLeDiff, Nat.reduceMul, reduceCtorEq, W_join, ht0, hwu, hmin, hwy, hbig, hwi]
        refine itoa_vw (by omega) (by omega) (hT.nb (fr.nb f3)) _ fun w4 f4 => ?_
        have l2 := digs_len (y - 40 * z).toNat
        simp (disch := omega) only [wu64, wu32, wu8, fdiv_nn, EO, ↓EP, EQ, EM, ↓reduceIte, Int.reduceAdd, Int.reduceEq, Int.reduceLE, Int.reduceLT, Int.reduceMul, Int.reduceNeg, Int.reducePow, Int.reduceSub, Int.reduceToNat, Nat.reduceAdd, Nat.reduceEqDiff, Nat.reduceLT, Nat.reduceLeDiff, Nat.reduceMul, reduceCtorEq, h47, ht0, hwu, hmin, hwy, b_sadd, dot_add, dot_size, S_size, S_append, List.length_cons]
        exact hN (d.length - (j + 1)) _ _ (by omega) ⟨(fr.nb f3).nb f4, j + 1, 0, _, by simp (disch := omega) only [wu64, wu32, wu8, fdiv_nn, EO, ↓EP, EQ, EM, ↓reduceIte, Int.reduceAdd, Int.reduceEq, Int.reduceLE, Int.reduceLT, Int.reduceMul, Int.reduceNeg, Int.reducePow, Int.reduceSub, Int.reduceToNat, Nat.reduceAdd, Nat.reduceEqDiff, Nat.reduceLT, Nat.reduceLeDiff, Nat.reduceMul, reduceCtorEq, h47, Int.natCast_add], by simp (disch := omega) only [wu64, wu32, wu8, fdiv_nn, EO, ↓EP, EQ, EM, ↓reduceIte, Int.reduceAdd, Int.reduceEq, Int.reduceLE, Int.reduceLT, Int.reduceMul, Int.reduceNeg, Int.reducePow, Int.reduceSub, Int.reduceToNat, Nat.reduceAdd, Nat.reduceEqDiff, Nat.reduceLT, Nat.reduceLeDiff, Nat.reduceMul, reduceCtorEq], by simp (disch := omega) only [wu64, wu32, wu8, fdiv_nn, EO, ↓EP, EQ, EM, ↓reduceIte, Int.reduceAdd, Int.reduceEq, Int.reduceLE, Int.reduceLT, Int.reduceMul, Int.reduceNeg, Int.reducePow, Int.reduceSub, Int.reduceToNat, Nat.reduceAdd, Nat.reduceEqDiff, Nat.reduceLT, Nat.reduceLeDiff, Nat.reduceMul, reduceCtorEq, ht0, hwu, hmin, hwy, b_sadd, dot_add, S_append], by omega, rfl, by omega, by omega, by simp; omega, hgo⟩
    · rw [if_neg hs0] at hgo
      have hs0' : decide (s = []) = false := decide_eq_false hs0
      by_cases hbig : 2147483647 < y
      · rw [if_pos hbig] at hgo
        rw [← hgo] at hK
        simp (disch := omega) only [wu64, wu32, wu8, fdiv_nn, EO, ↓EP, EQ, EM, ↓reduceIte, Int.reduceAdd, Int.reduceEq, Int.reduceLE, Int.reduceLT, Int.reduceMul, Int.reduceNeg, Int.reducePow, Int.reduceSub, Int.reduceToNat, Nat.reduceAdd, Nat.reduceEqDiff, Nat.reduceLT, Nat.reduceLeDiff, Nat.reduceMul, reduceCtorEq, W_join, h47, h7, h6, r45, r46, cj, e127, hor, hst, b_seql, eqE, hs0', hbig]
        exact hK w2 fr
      · rw [if_neg hbig] at hgo
        have hxy : x * 128 + at' d (j : Int) % 128 = y := by split at hst <;> omega
        have hwi : IntKind.i64.wrap y = y := w64 (by omega) (by omega)
        simp (disch := omega) only [wu64, wu32, wu8, fdiv_nn, EO, ↓EP, EQ, EM, ↓reduceIte, Int.reduceAdd, Int.reduceEq, Int.reduceLE, Int.reduceLT, Int.reduceMul, Int.reduceNeg, Int.reducePow, Int.reduceSub, Int.reduceToNat, Nat.reduceAdd, Nat.reduceEqDiff, Nat.reduceLT, Nat.reduceLeDiff, Nat.reduceMul, reduceCtorEq, W_join, h47, h7, h6, r45, r46, cj, e127, hor, hst, b_seql, eqE, hs0', hbig, hxy, hwi]
        refine itoa_vw (by omega) (by omega) (hT.nb fr) _ fun w4 f4 => ?_
        have l2 := digs_len y.toNat
        simp (disch := omega) only [wu64, wu32, wu8, fdiv_nn, EO, ↓EP, EQ, EM, ↓reduceIte, Int.reduceAdd, Int.reduceEq, Int.reduceLE, Int.reduceLT, Int.reduceMul, Int.reduceNeg, Int.reducePow, Int.reduceSub, Int.reduceToNat, Nat.reduceAdd, Nat.reduceEqDiff, Nat.reduceLT, Nat.reduceLeDiff, Nat.reduceMul, reduceCtorEq, h47, h6, hxy, hst, hwi, b_sadd, dot_add, dot_size, S_size, S_append, List.length_cons]
        exact hN (d.length - (j + 1)) _ _ (by omega) ⟨fr.nb f4, j + 1, 0, _, by simp (disch := omega) only [wu64, wu32, wu8, fdiv_nn, EO, ↓EP, EQ, EM, ↓reduceIte, Int.reduceAdd, Int.reduceEq, Int.reduceLE, Int.reduceLT, Int.reduceMul, Int.reduceNeg, Int.reducePow, Int.reduceSub, Int.reduceToNat, Nat.reduceAdd, Nat.reduceEqDiff, Nat.reduceLT, Nat.reduceLeDiff, Nat.reduceMul, reduceCtorEq, h47, Int.natCast_add], by simp (disch := omega) only [wu64, wu32, wu8, fdiv_nn, EO, ↓EP, EQ, EM, ↓reduceIte, Int.reduceAdd, Int.reduceEq, Int.reduceLE, Int.reduceLT, Int.reduceMul, Int.reduceNeg, Int.reducePow, Int.reduceSub, Int.reduceToNat, Nat.reduceAdd, Nat.reduceEqDiff, Nat.reduceLT, Nat.reduceLeDiff, Nat.reduceMul, reduceCtorEq], by simp (disch := omega) only [wu64, wu32, wu8, fdiv_nn, EO, ↓EP, EQ, EM, ↓reduceIte, Int.reduceAdd, Int.reduceEq, Int.reduceLE, Int.reduceLT, Int.reduceMul, Int.reduceNeg, Int.reducePow, Int.reduceSub, Int.reduceToNat, Nat.reduceAdd, Nat.reduceEqDiff, Nat.reduceLT, Nat.reduceLeDiff, Nat.reduceMul, reduceCtorEq, h6, dot_add, S_append], by omega, rfl, by omega, by omega, by simp; omega, hgo⟩
  · have hje : j = d.length := by omega
    subst hje
    rw [List.drop_length, oidGo] at hgo
    rw [← hgo] at hK
    simp (disch := omega) only [wu64, wu32, wu8, fdiv_nn, EO, ↓EP, EQ, EM, ↓reduceIte, Int.reduceAdd, Int.reduceEq, Int.reduceLE, Int.reduceLT, Int.reduceMul, Int.reduceNeg, Int.reducePow, Int.reduceSub, Int.reduceToNat, Nat.reduceAdd, Nat.reduceEqDiff, Nat.reduceLT, Nat.reduceLeDiff, Nat.reduceMul, reduceCtorEq, W_join, h47, h7, h6, r45, r46]
    exact hK w2 fr
end Go.Proofs.YtcflokckfjkdpaaDoor.Der
end
section
set_option linter.unusedVariables false
set_option linter.unusedSimpArgs false
namespace Go.Proofs.YtcflokckfjkdpaaDoor.Der
open Go Go.RowKit Go.Proofs Go.Proofs.YtcflokckfjkdpaaDoor.Eng Go.Proofs.YtcflokckfjkdpaaDoor.Code
set_option maxRecDepth 100000
attribute [local irreducible] callK S.W opsW scrW scrT
theorem u64_and127 {a : Int} (h : 0 ≤ a) (h' : a < 18446744073709551616) : bits .and .u64 a 127 = a % 128 := by
  obtain ⟨a, rfl⟩ := Int.eq_ofNat_of_zero_le h
  have ea : (BitVec.ofInt 64 (a : Int)).toNat = a := by simp; omega
  have eb : (BitVec.ofInt 64 (127 : Int)).toNat = 127 := by decide
  show IntKind.u64.wrap ((BitVec.ofInt 64 (a : Int) &&& BitVec.ofInt 64 (127 : Int)).toNat : Int) = _
  rw [BitVec.toNat_and, ea, eb, show (127 : Nat) = 2 ^ 7 - 1 by rfl, Nat.and_two_pow_sub_one_eq_mod]
  rw [wu64 (by omega) (by omega)]
  omega
theorem sevenHi_z : ∀ f, sevenHi f 0 = []
  | 0 => rfl
  | f + 1 => by rw [sevenHi, if_pos rfl]
theorem sevenHi_len : ∀ f v, (sevenHi f v).length ≤ f
  | 0, v => by simp [sevenHi]
  | f + 1, v => by
    rw [sevenHi]
    split
    · simp
    · have := sevenHi_len f (v / 128)
      simp; omega
theorem seven_len (v : Nat) : (sevenR v).length ≤ 11 := by
  have := sevenHi_len 10 (v / 128)
  simp [sevenR]; omega
theorem seven_byte (v : Nat) : ∀ x ∈ sevenR v, 0 ≤ x ∧ x < 256 := by
  have h : ∀ f v, ∀ x ∈ sevenHi f v, 0 ≤ x ∧ x < 256 := by
    intro f
    induction f with
    | zero => intro v x hx; simp [sevenHi] at hx
    | succ f ih =>
      intro v x hx
      rw [sevenHi] at hx
      split at hx
      · simp at hx
      · rw [List.mem_append] at hx
        rcases hx with hx | hx
        · exact ih _ x hx
        · simp at hx; omega
  intro x hx
  unfold sevenR at hx
  rw [List.mem_append] at hx
  rcases hx with hx | hx
  · exact h _ _ x hx
  · simp at hx; omega
theorem seven_vw {w : World} {v : Nat} (hv : v < 9223372036854775808) (K : Value → World → Prop)
    (hK : ∀ v' w', Gw .u8 w w' v' (sevenR v) → K v' w') : callK Tryd.prog 50 [.int .u64 v] w K := by
  refine call_of Tryd.func50 Code.h50 (by simp [Code.c50]) ?_
  have e0 := u64_and127 (a := (v : Int)) (by omega) (by omega)
  have e1 : IntKind.u8.wrap ((v : Int) % 128) = (v : Int) % 128 := wu8 (by omega) (by omega)
  simp (disch := omega) only [wu64, wu32, wu8, fdiv_nn, EO, ↓EP, EQ, EM, ↓reduceIte, Int.reduceAdd, Int.reduceEq, Int.reduceLE, Int.reduceLT, Int.reduceMul, Int.reduceNeg, Int.reducePow, Int.reduceSub, Int.reduceToNat, Nat.reduceAdd, Nat.reduceEqDiff, Nat.reduceLT, Nat.reduceLeDiff, Nat.reduceMul, reduceCtorEq, Code.c50, e0, e1]
  refine bsl1 fun w1 n1 => ?_
  have g1 : Gw .u8 w w1 (.slice (some ⟨w.heap.size, 0, none⟩) 1 1) [(v : Int) % 128] := ⟨n1.sl, fun b e => by cases e; exact Nat.le_refl _, n1.fr nob⟩
  simp (disch := omega) only [wu64, wu32, wu8, fdiv_nn, EO, ↓EP, EQ, EM, ↓reduceIte, Int.reduceAdd, Int.reduceEq, Int.reduceLE, Int.reduceLT, Int.reduceMul, Int.reduceNeg, Int.reducePow, Int.reduceSub, Int.reduceToNat, Nat.reduceAdd, Nat.reduceEqDiff, Nat.reduceLT, Nat.reduceLeDiff, Nat.reduceMul, reduceCtorEq]
  refine loop_inv (fun t ρ w' => ∃ (x f : Nat) (B : Value) (l : List Int), ρ 0 = .int .u64 x ∧ ρ 3 = B ∧ Gw .u8 w w' B l ∧ t = x ∧ x < 128 ^ f ∧ f ≤ 10 ∧ l.length + f ≤ 11 ∧ x < 9223372036854775808 ∧ sevenHi f x ++ l = sevenR v) _ ⟨v / 128, 10, _, _, by simp (disch := omega) only [wu64, wu32, wu8, fdiv_nn, EO, ↓EP, EQ, EM, ↓reduceIte, Int.reduceAdd, Int.reduceEq, Int.reduceLE, Int.reduceLT, Int.reduceMul, Int.reduceNeg, Int.reducePow, Int.reduceSub, Int.reduceToNat, Nat.reduceAdd, Nat.reduceEqDiff, Nat.reduceLT, Nat.reduceLeDiff, Nat.reduceMul, reduceCtorEq, Int.natCast_ediv], by simp (disch := omega) only [wu64, wu32, wu8, fdiv_nn, EO, ↓EP, EQ, EM, ↓reduceIte, Int.reduceAdd, Int.reduceEq, Int.reduceLE, Int.reduceLT, Int.reduceMul, Int.reduceNeg, Int.reducePow, Int.reduceSub, Int.reduceToNat, Nat.reduceAdd, Nat.reduceEqDiff, Nat.reduceLT, Nat.reduceLeDiff, Nat.reduceMul, reduceCtorEq], g1, rfl, by omega, by omega, by simp, by omega, by simp [sevenR]⟩ ?_
  rintro t ρ w2 hf ⟨x, f, B, l, h0, h3, g, ht, hx, hf10, hl, hx63, hs⟩ N hN
  clear hf
  obtain ⟨BA, bc, rfl, hbc, hBr⟩ := readn g.sl rfl
  by_cases hx0 : x = 0
  · rw [hx0] at h0 hs
    rw [sevenHi_z, List.nil_append] at hs
    subst hs
    simp (disch := omega) only [wu64, wu32, wu8, fdiv_nn, EO, ↓EP, EQ, EM, ↓reduceIte, Int.reduceAdd, Int.reduceEq, Int.reduceLE, Int.reduceLT, Int.reduceMul, Int.reduceNeg, Int.reducePow, Int.reduceSub, Int.reduceToNat, Nat.reduceAdd, Nat.reduceEqDiff, Nat.reduceLT, Nat.reduceLeDiff, Nat.reduceMul, reduceCtorEq, h0, h3, Int.natCast_zero]
    exact hK _ w2 g
  · obtain ⟨f, rfl⟩ : ∃ g, f = g + 1 := by
      cases f with
      | zero => simp at hx; omega
      | succ f => exact ⟨f, rfl⟩
    have ewb : IntKind.u8.wrap (x : Int) = ((x % 256 : Nat) : Int) := by rw [wu8_mod]; omega
    have eor : bits .or .u8 ((x % 256 : Nat) : Int) 128 = ((x % 128 + 128 : Nat) : Int) := by
      rw [d8_or128 ⟨by omega, by omega⟩]; omega
    rw [Nat.pow_succ] at hx
    rw [sevenHi, if_neg hx0] at hs
    simp (disch := omega) only [wu64, wu32, wu8, fdiv_nn, EO, ↓EP, EQ, EM, ↓reduceIte, Int.reduceAdd, Int.reduceEq, Int.reduceLE, Int.reduceLT, Int.reduceMul, Int.reduceNeg, Int.reducePow, Int.reduceSub, Int.reduceToNat, Nat.reduceAdd, Nat.reduceEqDiff, Nat.reduceLT, Nat.reduceLeDiff, Nat.reduceMul, reduceCtorEq, h0, h3, ewb, eor]
    refine bsl1 fun w3 n3 => ?_
    simp (disch := omega) only [wu64, wu32, wu8, fdiv_nn, EO, ↓EP, EQ, EM, ↓reduceIte, Int.reduceAdd, Int.reduceEq, Int.reduceLE, Int.reduceLT, Int.reduceMul, Int.reduceNeg, Int.reducePow, Int.reduceSub, Int.reduceToNat, Nat.reduceAdd, Nat.reduceEqDiff, Nat.reduceLT, Nat.reduceLeDiff, Nat.reduceMul, reduceCtorEq, h3]
    refine app_num n3.sl rfl (hBr.nb (n3.fr nob)) (by simp; omega) (by omega) fun v4 w4 a4 => ?_
    have g4 : Gw .u8 w w4 v4 (((x % 128 + 128 : Nat) : Int) :: l) := by
      have := (⟨n3.sl, fun b e => by cases e; exact Nat.le_refl _, n3.fr nob⟩ : Gw .u8 w2 w3 (.slice (some ⟨w2.heap.size, 0, none⟩) 1 1) [((x % 128 + 128 : Nat) : Int)]).apd a4
      exact this.from g.fr
    simp (disch := omega) only [wu64, wu32, wu8, fdiv_nn, EO, ↓EP, EQ, EM, ↓reduceIte, Int.reduceAdd, Int.reduceEq, Int.reduceLE, Int.reduceLT, Int.reduceMul, Int.reduceNeg, Int.reducePow, Int.reduceSub, Int.reduceToNat, Nat.reduceAdd, Nat.reduceEqDiff, Nat.reduceLT, Nat.reduceLeDiff, Nat.reduceMul, reduceCtorEq, h0]
    exact hN (x / 128) _ _ (by omega) ⟨x / 128, f, v4, _, by simp (disch := omega) only [wu64, wu32, wu8, fdiv_nn, EO, ↓EP, EQ, EM, ↓reduceIte, Int.reduceAdd, Int.reduceEq, Int.reduceLE, Int.reduceLT, Int.reduceMul, Int.reduceNeg, Int.reducePow, Int.reduceSub, Int.reduceToNat, Nat.reduceAdd, Nat.reduceEqDiff, Nat.reduceLT, Nat.reduceLeDiff, Nat.reduceMul, reduceCtorEq, h0, Int.natCast_ediv], by simp (disch := omega) only [wu64, wu32, wu8, fdiv_nn, EO, ↓EP, EQ, EM, ↓reduceIte, Int.reduceAdd, Int.reduceEq, Int.reduceLE, Int.reduceLT, Int.reduceMul, Int.reduceNeg, Int.reducePow, Int.reduceSub, Int.reduceToNat, Nat.reduceAdd, Nat.reduceEqDiff, Nat.reduceLT, Nat.reduceLeDiff, Nat.reduceMul, reduceCtorEq], g4, rfl, by omega, by omega, by simp at hl ⊢; omega, by omega, by rw [← hs]; simp⟩
end Go.Proofs.YtcflokckfjkdpaaDoor.Der
end
section
set_option linter.unusedVariables false
set_option linter.unusedSimpArgs false
namespace Go.Proofs.YtcflokckfjkdpaaDoor.Der
open Go Go.RowKit Go.Proofs Go.Proofs.YtcflokckfjkdpaaDoor.Eng Go.Proofs.YtcflokckfjkdpaaDoor.Code
set_option maxRecDepth 100000
attribute [local irreducible] callK S.W opsW scrW scrT
def ints (u : List UInt8) : List Int := u.map fun b => (b.toNat : Int)
theorem ints_len (u : List UInt8) : (ints u).length = u.length := by simp [ints]
theorem ints_at {u : List UInt8} {i : Nat} (h : i < u.length) : at' (ints u) (i : Int) = ((u[i]).toNat : Int) := by
  rw [atN, List.getD_eq_getElem?_getD, ints, List.getElem?_map, List.getElem?_eq_getElem h]; rfl
theorem S_get {u : List UInt8} {i : Nat} (h : i < (S u).size) : (S u)[i]'h = u[i]'(by rwa [S_size] at h) := by
  simp [S, ByteArray.getElem_eq_getElem_data]
theorem dec_low {u : List UInt8} {i : Nat} (h : i < u.length) (ha : (u[i]).toNat < 128) : Utf8.decode (S u) i = ((u[i]).toNat, 1) := by
  have h' : i < (S u).size := by rwa [S_size]
  rw [decode_ascii (S u) i h' (by rw [S_get]; exact ha), S_get]
theorem dec_high {u : List UInt8} {i : Nat} (h : i < u.length) (ha : 128 ≤ (u[i]).toNat) : 128 ≤ (Utf8.decode (S u) i).1 := by
  have h' : i < (S u).size := by rwa [S_size]
  have e : (S u).get! (i + 0) = u[i] := by
    refine Eq.trans ?_ (S_get h')
    show (S u).get! i = _
    simp [ByteArray.get!, getElem!_pos, h']
    rfl
  unfold Utf8.decode
  simp only [e, show ¬ (u[i]).toNat < 128 by omega, if_false]
  split
  · split
    · assumption
    · decide
  · split
    · split
      · rename_i hh
        simp at hh
        simp only
        omega
      · decide
    · split
      · split
        · rename_i hh
          simp at hh
          simp only
          omega
        · decide
      · decide
theorem fr_it (w : World) (ib : Nat) (o : Obj) : Fr w { w with heap := w.heap.setIfInBounds ib o } (fun b => b = ib) :=
  ⟨⟨rfl, rfl, rfl, by simp, fun k hk => by omega⟩, fun b _ hb => by
    show (w.heap.setIfInBounds ib o)[b]? = w.heap[b]?
    rw [Array.getElem?_setIfInBounds_ne (fun e => hb e.symm)]⟩
theorem nxs_k {w : World} {ib pos c k : Nat} {s : ByteArray} {K : Value → World → Prop} {t : Tok K} (h : w.heap[ib]? = some (.stringIter s pos)) (hp : pos < s.size) (hd : Utf8.decode s pos = (c, k))
    (hK : ∀ w', Fr w w' (fun b => b = ib) → w'.heap[ib]? = some (.stringIter s (pos + k)) → K (.tuple #[.bool true, .int .i64 pos, .int .i32 c]) w') : nxsT ⟨ib, 0, none⟩ w K t := by
  refine ⟨rfl, s, pos, h, fun _ => ?_, fun h' => by omega⟩
  rw [hd]
  refine hK _ (fr_it w ib _) ?_
  have hib := (Array.getElem?_eq_some_iff.1 h).1
  show (w.heap.setIfInBounds ib _)[ib]? = _
  rw [Array.getElem?_setIfInBounds_self_of_lt hib]
theorem nxs_end {w : World} {ib pos : Nat} {s : ByteArray} {K : Value → World → Prop} {t : Tok K} (h : w.heap[ib]? = some (.stringIter s pos)) (hp : s.size ≤ pos)
    (hK : K (.tuple #[.bool false]) w) : nxsT ⟨ib, 0, none⟩ w K t := ⟨rfl, s, pos, h, fun h' => by omega, fun _ => hK⟩
theorem it_heap (w : World) (o : Obj) : (w.alloc o).heap = w.heap.push o := rfl
theorem it_fr (w : World) (o : Obj) : Fr w (w.alloc o) nob := by
  refine ⟨⟨rfl, rfl, rfl, ?_, fun k hk => by omega⟩, fun b hb _ => ?_⟩
  · rw [it_heap, Array.size_push]; omega
  · rw [it_heap, Array.getElem?_push_lt hb, Array.getElem?_eq_getElem hb]
theorem it_lt (w : World) (o : Obj) : w.heap.size < (w.alloc o).heap.size := by rw [it_heap, Array.size_push]; omega
theorem rgs_k {w : World} {s : ByteArray} {K : Value → World → Prop} {t : Tok K} (hK : ∀ w', Fr w w' nob → w'.heap[w.heap.size]? = some (.stringIter s 0) → w.heap.size < w'.heap.size → K (.pointer (some ⟨w.heap.size, 0, none⟩)) w') : rgsT s w K t :=
  hK _ (it_fr w _) (World.iter_heap w s 0) (it_lt w _)
theorem pos_cellsK {k : IntKind} {w : World} {A : Option Addr} {l : List Int} (hr : Rd w A (nums k l)) (h0 : 0 < l.length) : ∃ ad, A = some ad ∧ ∀ i : Nat, i < l.length → w.cell? (ad.add i) = some (.int k (at' l (i : Int))) := by
  obtain ⟨ad, e, _, hcl⟩ := hr.get (by rw [nums_length]; omega)
  exact ⟨ad, e, fun i hi => hcl.numN hi⟩
def prb (v : Value) (b : Bool) : Value := .tuple #[v, .bool b]
set_option maxHeartbeats 2000000 in
theorem arcs_vw {w : World} {u : List UInt8} (hm : u.length ≤ 1073741824) (K : Value → World → Prop)
    (hK : ∀ v' w', Gw .u64 w w' v' ((arcsR (ints u)).getD []) → K (prb v' (arcsR (ints u)).isSome) w') : callK Tryd.prog 49 [.string (S u)] w K := by
  refine call_of Tryd.func49 Code.h49 (by simp [Code.c49]) ?_
  have htl : (u ++ [46]).length = u.length + 1 := by simp
  have hti : ints (u ++ [46]) = ints u ++ [46] := by simp [ints]
  unfold arcsR at hK
  rw [← hti] at hK
  simp (disch := omega) only [wu64, wu32, wu8, fdiv_nn, EO, ↓EP, EQ, EM, ↓reduceIte, Int.reduceAdd, Int.reduceEq, Int.reduceLE, Int.reduceLT, Int.reduceMul, Int.reduceNeg, Int.reducePow, Int.reduceSub, Int.reduceToNat, Nat.reduceAdd, Nat.reduceEqDiff, Nat.reduceLT, Nat.reduceLeDiff, Nat.reduceMul, reduceCtorEq, Code.c49, b_sadd, ← S_dot, S_append, S_size, List.length_cons, List.length_nil]
  refine rgs_k fun w1 f1 hit hlt => ?_
  generalize hib : w.heap.size = ib at hit hlt
  generalize hT : u ++ [46] = T at hK htl hit
  simp (disch := omega) only [wu64, wu32, wu8, fdiv_nn, EO, ↓EP, EQ, EM, ↓reduceIte, Int.reduceAdd, Int.reduceEq, Int.reduceLE, Int.reduceLT, Int.reduceMul, Int.reduceNeg, Int.reducePow, Int.reduceSub, Int.reduceToNat, Nat.reduceAdd, Nat.reduceEqDiff, Nat.reduceLT, Nat.reduceLeDiff, Nat.reduceMul, reduceCtorEq]
  refine loop_inv (fun t ρ w2 => ∃ (pos : Nat) (l : List Int) (v : Int) (n : Nat) (X : Value), w2.heap[ib]? = some (.stringIter (S T) pos) ∧ ρ 4 = X ∧ ρ 5 = .int .u64 v ∧ ρ 6 = .int .i64 n ∧ pos ≤ T.length ∧ t = T.length - pos ∧ 0 ≤ v ∧ v ≤ 1099511627776 ∧ n ≤ 20 ∧ l.length ≤ pos ∧ Gw .u64 w w2 X l ∧ (∀ b, blkOf X = some b → b ≠ ib) ∧ (∀ x ∈ l, 0 ≤ x ∧ x ≤ 1099511627776) ∧ arcsGo ((ints T).drop pos) l v n = arcsGo (ints T) [] 0 0) T.length ⟨0, [], 0, 0, _, hit, by simp (disch := omega) only [wu64, wu32, wu8, fdiv_nn, EO, ↓EP, EQ, EM, ↓reduceIte, Int.reduceAdd, Int.reduceEq, Int.reduceLE, Int.reduceLT, Int.reduceMul, Int.reduceNeg, Int.reducePow, Int.reduceSub, Int.reduceToNat, Nat.reduceAdd, Nat.reduceEqDiff, Nat.reduceLT, Nat.reduceLeDiff, Nat.reduceMul, reduceCtorEq], by simp (disch := omega) only [wu64, wu32, wu8, fdiv_nn, EO, ↓EP, EQ, EM, ↓reduceIte, Int.reduceAdd, Int.reduceEq, Int.reduceLE, Int.reduceLT, Int.reduceMul, Int.reduceNeg, Int.reducePow, Int.reduceSub, Int.reduceToNat, Nat.reduceAdd, Nat.reduceEqDiff, Nat.reduceLT, Nat.reduceLeDiff, Nat.reduceMul, reduceCtorEq], by simp (disch := omega) only [wu64, wu32, wu8, fdiv_nn, EO, ↓EP, EQ, EM, ↓reduceIte, Int.reduceAdd, Int.reduceEq, Int.reduceLE, Int.reduceLT, Int.reduceMul, Int.reduceNeg, Int.reducePow, Int.reduceSub, Int.reduceToNat, Nat.reduceAdd, Nat.reduceEqDiff, Nat.reduceLT, Nat.reduceLeDiff, Nat.reduceMul, reduceCtorEq], by omega, by omega, by omega, by omega, by omega, by simp, (Gw.nil .u64 w).step f1, fun b e => (by cases e), by simp, rfl⟩ ?_
  rintro t ρ w2 hf ⟨pos, l, v, n, X, hit2, h4, h5, h6, hp, rfl, hv, hv', hn, hll, g, hX, hlm, hgo⟩ N hN
  have r11 : ρ 11 = .pointer (some ⟨ib, 0, none⟩) := by rw [hf 11 rfl]; simp (disch := omega) only [wu64, wu32, wu8, fdiv_nn, EO, ↓EP, EQ, EM, ↓reduceIte, Int.reduceAdd, Int.reduceEq, Int.reduceLE, Int.reduceLT, Int.reduceMul, Int.reduceNeg, Int.reducePow, Int.reduceSub, Int.reduceToNat, Nat.reduceAdd, Nat.reduceEqDiff, Nat.reduceLT, Nat.reduceLeDiff, Nat.reduceMul, reduceCtorEq]
  clear hf
  have hlt2 : ib < w2.heap.size := (Array.getElem?_eq_some_iff.1 hit2).1
  by_cases hpl : pos < T.length
  · have htp := ints_at hpl
    rw [drop_at (show pos < (ints T).length by rw [ints_len]; exact hpl), arcsGo, htp] at hgo
    have hcb := (T[pos]).toNat_lt
    by_cases hc : (T[pos]).toNat < 128
    · have hd := dec_low hpl hc
      generalize (T[pos]).toNat = c at *
      simp (disch := omega) only [wu64, wu32, wu8, fdiv_nn, EO, ↓EP, EQ, EM, ↓reduceIte, Int.reduceAdd, Int.reduceEq, Int.reduceLE, Int.reduceLT, Int.reduceMul, Int.reduceNeg, Int.reducePow, Int.reduceSub, Int.reduceToNat, Nat.reduceAdd, Nat.reduceEqDiff, Nat.reduceLT, Nat.reduceLeDiff, Nat.reduceMul, reduceCtorEq, r11]
      refine nxs_k hit2 (by rw [S_size]; exact hpl) hd fun w3 f3 hit3 => ?_
      have g3 := g.other f3 hX (fun b hb => by omega)
      by_cases h46 : c = 46 ∧ 0 < n
      · rw [if_pos ⟨by omega, h46.2⟩] at hgo
        have h6' : (0 : Int) < (n : Int) := by omega
        rw [h46.1]
        simp (disch := omega) only [wu64, wu32, wu8, fdiv_nn, EO, ↓EP, EQ, EM, ↓reduceIte, Int.reduceAdd, Int.reduceEq, Int.reduceLE, Int.reduceLT, Int.reduceMul, Int.reduceNeg, Int.reducePow, Int.reduceSub, Int.reduceToNat, Nat.reduceAdd, Nat.reduceEqDiff, Nat.reduceLT, Nat.reduceLeDiff, Nat.reduceMul, reduceCtorEq, W_join, h4, h5, h6]
        refine bsl1 fun w4 n4 => ?_
        have g4 := g3.new n4
        simp (disch := omega) only [wu64, wu32, wu8, fdiv_nn, EO, ↓EP, EQ, EM, ↓reduceIte, Int.reduceAdd, Int.reduceEq, Int.reduceLE, Int.reduceLT, Int.reduceMul, Int.reduceNeg, Int.reducePow, Int.reduceSub, Int.reduceToNat, Nat.reduceAdd, Nat.reduceEqDiff, Nat.reduceLT, Nat.reduceLeDiff, Nat.reduceMul, reduceCtorEq, W_join, h4, h5, h6]
        refine app_num g4.sl rfl n4.rdv (by simp; omega) (by omega) fun v5 w5 a5 => ?_
        have g5 := g4.apd a5
        have hit5 : w5.heap[ib]? = some (.stringIter (S T) (pos + 1)) := by
          have b3 : ib < w3.heap.size := Nat.lt_of_lt_of_le hlt2 f3.size
          rw [a5.fr.block ib (Nat.lt_of_lt_of_le b3 (n4.fr nob).size) (fun e => hX ib e rfl), (n4.fr nob).block ib b3 (fun e => e)]
          exact hit3
        simp (disch := omega) only [wu64, wu32, wu8, fdiv_nn, EO, ↓EP, EQ, EM, ↓reduceIte, Int.reduceAdd, Int.reduceEq, Int.reduceLE, Int.reduceLT, Int.reduceMul, Int.reduceNeg, Int.reducePow, Int.reduceSub, Int.reduceToNat, Nat.reduceAdd, Nat.reduceEqDiff, Nat.reduceLT, Nat.reduceLeDiff, Nat.reduceMul, reduceCtorEq, W_join, h4, h5, h6]
        refine hN (T.length - (pos + 1)) _ _ (by omega) ⟨pos + 1, l ++ [v], 0, 0, v5, hit5, by simp (disch := omega) only [wu64, wu32, wu8, fdiv_nn, EO, ↓EP, EQ, EM, ↓reduceIte, Int.reduceAdd, Int.reduceEq, Int.reduceLE, Int.reduceLT, Int.reduceMul, Int.reduceNeg, Int.reducePow, Int.reduceSub, Int.reduceToNat, Nat.reduceAdd, Nat.reduceEqDiff, Nat.reduceLT, Nat.reduceLeDiff, Nat.reduceMul, reduceCtorEq], by simp (disch := omega) only [wu64, wu32, wu8, fdiv_nn, EO, ↓EP, EQ, EM, ↓reduceIte, Int.reduceAdd, Int.reduceEq, Int.reduceLE, Int.reduceLT, Int.reduceMul, Int.reduceNeg, Int.reducePow, Int.reduceSub, Int.reduceToNat, Nat.reduceAdd, Nat.reduceEqDiff, Nat.reduceLT, Nat.reduceLeDiff, Nat.reduceMul, reduceCtorEq], by simp (disch := omega) only [wu64, wu32, wu8, fdiv_nn, EO, ↓EP, EQ, EM, ↓reduceIte, Int.reduceAdd, Int.reduceEq, Int.reduceLE, Int.reduceLT, Int.reduceMul, Int.reduceNeg, Int.reducePow, Int.reduceSub, Int.reduceToNat, Nat.reduceAdd, Nat.reduceEqDiff, Nat.reduceLT, Nat.reduceLeDiff, Nat.reduceMul, reduceCtorEq], by omega, rfl, by omega, by omega, by omega, by simp; omega, g5, fun b e => ?_, ?_, hgo⟩
        · rcases a5.where_ with hw | hw
          · exact hX b (hw ▸ e)
          · have := hw b e
            have := (n4.fr nob).size
            have := f3.size
            omega
        · intro x hx
          rw [List.mem_append] at hx
          rcases hx with hx | hx
          · exact hlm x hx
          · simp at hx; omega
      · rw [if_neg (fun h => h46 ⟨by omega, h.2⟩)] at hgo
        by_cases hbad : (c : Int) < 48 ∨ 57 < (c : Int) ∨ (n = 1 ∧ v = 0)
        · rw [if_pos hbad] at hgo
          rw [← hgo] at hK
          have fin := hK _ w3 ((Gw.nil .u64 w).step g3.fr)
          by_cases hc46 : c = 46
          · have hn0 : n = 0 := by
              apply Nat.eq_zero_of_not_pos
              exact fun h => h46 ⟨hc46, h⟩
            subst hn0
            rw [hc46]
            simp (disch := omega) only [wu64, wu32, wu8, fdiv_nn, EO, ↓EP, EQ, EM, ↓reduceIte, Int.reduceAdd, Int.reduceEq, Int.reduceLE, Int.reduceLT, Int.reduceMul, Int.reduceNeg, Int.reducePow, Int.reduceSub, Int.reduceToNat, Nat.reduceAdd, Nat.reduceEqDiff, Nat.reduceLT, Nat.reduceLeDiff, Nat.reduceMul, reduceCtorEq, W_join, h4, h5, h6, Int.natCast_zero]
            exact fin
          · have hc46' : ((c : Int) = 46) = False := eq_false (by omega)
            by_cases h1 : (c : Int) < 48
            · simp (disch := omega) only [wu64, wu32, wu8, fdiv_nn, EO, ↓EP, EQ, EM, ↓reduceIte, Int.reduceAdd, Int.reduceEq, Int.reduceLE, Int.reduceLT, Int.reduceMul, Int.reduceNeg, Int.reducePow, Int.reduceSub, Int.reduceToNat, Nat.reduceAdd, Nat.reduceEqDiff, Nat.reduceLT, Nat.reduceLeDiff, Nat.reduceMul, reduceCtorEq, W_join, h4, h5, h6, hc46']
              exact fin
            · by_cases h2 : 57 < (c : Int)
              · simp (disch := omega) only [wu64, wu32, wu8, fdiv_nn, EO, ↓EP, EQ, EM, ↓reduceIte, Int.reduceAdd, Int.reduceEq, Int.reduceLE, Int.reduceLT, Int.reduceMul, Int.reduceNeg, Int.reducePow, Int.reduceSub, Int.reduceToNat, Nat.reduceAdd, Nat.reduceEqDiff, Nat.reduceLT, Nat.reduceLeDiff, Nat.reduceMul, reduceCtorEq, W_join, h4, h5, h6, hc46']
                exact fin
              · have h3 : n = 1 ∧ v = 0 := by omega
                rw [h3.1] at h6
                rw [h3.2] at h5
                simp (disch := omega) only [wu64, wu32, wu8, fdiv_nn, EO, ↓EP, EQ, EM, ↓reduceIte, Int.reduceAdd, Int.reduceEq, Int.reduceLE, Int.reduceLT, Int.reduceMul, Int.reduceNeg, Int.reducePow, Int.reduceSub, Int.reduceToNat, Nat.reduceAdd, Nat.reduceEqDiff, Nat.reduceLT, Nat.reduceLeDiff, Nat.reduceMul, reduceCtorEq, W_join, h4, h5, h6, hc46', Int.natCast_one]
                exact fin
        · rw [if_neg hbad] at hgo
          have hc46' : ((c : Int) = 46) = False := eq_false (by omega)
          have hw1 : IntKind.i32.wrap ((c : Int) - 48) = (c : Int) - 48 := by
            unfold IntKind.wrap IntKind.bits IntKind.signed
            simp only [Bool.true_and, decide_eq_true_eq]
            split <;> omega
          have hw2 : IntKind.u64.wrap ((c : Int) - 48) = (c : Int) - 48 := wu64 (by omega) (by omega)
          have hst : (if 1099511627776 < 10 * v + ((c : Int) - 48) then (1099511627776 : Int) else 10 * v + ((c : Int) - 48)) = satA (10 * v + ((c : Int) - 48)) := rfl
          have sb := satA_bd (v := 10 * v + ((c : Int) - 48)) (by omega)
          have hmn : (if 20 < (n : Int) + 1 then (20 : Int) else (n : Int) + 1) = ((min (n + 1) 20 : Nat) : Int) := by split <;> omega
          by_cases h1 : n = 1
          · have hv0 : (v = 0) = False := eq_false (fun h => hbad (.inr (.inr ⟨h1, h⟩)))
            rw [h1] at h6
            subst h1
            simp (disch := omega) only [wu64, wu32, wu8, fdiv_nn, EO, ↓EP, EQ, EM, ↓reduceIte, Int.reduceAdd, Int.reduceEq, Int.reduceLE, Int.reduceLT, Int.reduceMul, Int.reduceNeg, Int.reducePow, Int.reduceSub, Int.reduceToNat, Nat.reduceAdd, Nat.reduceEqDiff, Nat.reduceLT, Nat.reduceLeDiff, Nat.reduceMul, reduceCtorEq, W_join, h4, h5, h6, hc46', hw1, hw2, hv0, Int.natCast_one]
            exact hN (T.length - (pos + 1)) _ _ (by omega) ⟨pos + 1, l, _, _, X, hit3, by simp (disch := omega) only [wu64, wu32, wu8, fdiv_nn, EO, ↓EP, EQ, EM, ↓reduceIte, Int.reduceAdd, Int.reduceEq, Int.reduceLE, Int.reduceLT, Int.reduceMul, Int.reduceNeg, Int.reducePow, Int.reduceSub, Int.reduceToNat, Nat.reduceAdd, Nat.reduceEqDiff, Nat.reduceLT, Nat.reduceLeDiff, Nat.reduceMul, reduceCtorEq, h4], by simp (disch := omega) only [wu64, wu32, wu8, fdiv_nn, EO, ↓EP, EQ, EM, ↓reduceIte, Int.reduceAdd, Int.reduceEq, Int.reduceLE, Int.reduceLT, Int.reduceMul, Int.reduceNeg, Int.reducePow, Int.reduceSub, Int.reduceToNat, Nat.reduceAdd, Nat.reduceEqDiff, Nat.reduceLT, Nat.reduceLeDiff, Nat.reduceMul, reduceCtorEq, hw1, hw2, hst], by simp (disch := omega) only [wu64, wu32, wu8, fdiv_nn, EO, ↓EP, EQ, EM, ↓reduceIte, Int.reduceAdd, Int.reduceEq, Int.reduceLE, Int.reduceLT, Int.reduceMul, Int.reduceNeg, Int.reducePow, Int.reduceSub, Int.reduceToNat, Nat.reduceAdd, Nat.reduceEqDiff, Nat.reduceLT, Nat.reduceLeDiff, Nat.reduceMul, reduceCtorEq], by omega, rfl, sb.1, sb.2, by omega, by omega, g3, hX, hlm, hgo⟩
          · have h1' : ((n : Int) = 1) = False := eq_false (by omega)
            simp (disch := omega) only [wu64, wu32, wu8, fdiv_nn, EO, ↓EP, EQ, EM, ↓reduceIte, Int.reduceAdd, Int.reduceEq, Int.reduceLE, Int.reduceLT, Int.reduceMul, Int.reduceNeg, Int.reducePow, Int.reduceSub, Int.reduceToNat, Nat.reduceAdd, Nat.reduceEqDiff, Nat.reduceLT, Nat.reduceLeDiff, Nat.reduceMul, reduceCtorEq, W_join, h4, h5, h6, hc46', hw1, hw2, h1']
            exact hN (T.length - (pos + 1)) _ _ (by omega) ⟨pos + 1, l, _, _, X, hit3, by simp (disch := omega) only [wu64, wu32, wu8, fdiv_nn, EO, ↓EP, EQ, EM, ↓reduceIte, Int.reduceAdd, Int.reduceEq, Int.reduceLE, Int.reduceLT, Int.reduceMul, Int.reduceNeg, Int.reducePow, Int.reduceSub, Int.reduceToNat, Nat.reduceAdd, Nat.reduceEqDiff, Nat.reduceLT, Nat.reduceLeDiff, Nat.reduceMul, reduceCtorEq, h4], by simp (disch := omega) only [wu64, wu32, wu8, fdiv_nn, EO, ↓EP, EQ, EM, ↓reduceIte, Int.reduceAdd, Int.reduceEq, Int.reduceLE, Int.reduceLT, Int.reduceMul, Int.reduceNeg, Int.reducePow, Int.reduceSub, Int.reduceToNat, Nat.reduceAdd, Nat.reduceEqDiff, Nat.reduceLT, Nat.reduceLeDiff, Nat.reduceMul, reduceCtorEq, hw1, hw2, hst], by simp (disch := omega) only [wu64, wu32, wu8, fdiv_nn, EO, ↓EP, EQ, EM, ↓reduceIte, Int.reduceAdd, Int.reduceEq, Int.reduceLE, Int.reduceLT, Int.reduceMul, Int.reduceNeg, Int.reducePow, Int.reduceSub, Int.reduceToNat, Nat.reduceAdd, Nat.reduceEqDiff, Nat.reduceLT, Nat.reduceLeDiff, Nat.reduceMul, reduceCtorEq, hmn], by omega, rfl, sb.1, sb.2, by omega, by omega, g3, hX, hlm, hgo⟩
    · have hh := dec_high hpl (by omega)
      rw [if_neg (fun h => by omega), if_pos (.inr (.inl (by omega)))] at hgo
      rw [← hgo] at hK
      obtain ⟨C, k, hd⟩ : ∃ C k, Utf8.decode (S T) pos = (C, k) := ⟨_, _, rfl⟩
      rw [hd] at hh
      simp only at hh
      simp (disch := omega) only [wu64, wu32, wu8, fdiv_nn, EO, ↓EP, EQ, EM, ↓reduceIte, Int.reduceAdd, Int.reduceEq, Int.reduceLE, Int.reduceLT, Int.reduceMul, Int.reduceNeg, Int.reducePow, Int.reduceSub, Int.reduceToNat, Nat.reduceAdd, Nat.reduceEqDiff, Nat.reduceLT, Nat.reduceLeDiff, Nat.reduceMul, reduceCtorEq, r11]
      refine nxs_k hit2 (by rw [S_size]; exact hpl) hd fun w3 f3 hit3 => ?_
      have g3 := g.other f3 hX (fun b hb => by omega)
      have fin := hK _ w3 ((Gw.nil .u64 w).step g3.fr)
      have hc46' : ((C : Int) = 46) = False := eq_false (by omega)
      simp (disch := omega) only [wu64, wu32, wu8, fdiv_nn, EO, ↓EP, EQ, EM, ↓reduceIte, Int.reduceAdd, Int.reduceEq, Int.reduceLE, Int.reduceLT, Int.reduceMul, Int.reduceNeg, Int.reducePow, Int.reduceSub, Int.reduceToNat, Nat.reduceAdd, Nat.reduceEqDiff, Nat.reduceLT, Nat.reduceLeDiff, Nat.reduceMul, reduceCtorEq, W_join, h4, h5, h6, hc46']
      exact fin
  · have hpe : pos = T.length := by omega
    rw [hpe, show T.length = (ints T).length by rw [ints_len], List.drop_length, arcsGo] at hgo
    rw [← hgo] at hK
    simp only at hK
    clear hN hgo
    simp (disch := omega) only [wu64, wu32, wu8, fdiv_nn, EO, ↓EP, EQ, EM, ↓reduceIte, Int.reduceAdd, Int.reduceEq, Int.reduceLE, Int.reduceLT, Int.reduceMul, Int.reduceNeg, Int.reducePow, Int.reduceSub, Int.reduceToNat, Nat.reduceAdd, Nat.reduceEqDiff, Nat.reduceLT, Nat.reduceLeDiff, Nat.reduceMul, reduceCtorEq, r11]
    refine nxs_end hit2 (by rw [S_size]; omega) ?_
    have nil2 := (Gw.nil .u64 w).step g.fr
    obtain ⟨XA, xc, rfl, hxc, hXr⟩ := readn g.sl rfl
    by_cases hl2 : l.length < 2
    · rw [if_pos (.inl hl2)] at hK
      simp (disch := omega) only [wu64, wu32, wu8, fdiv_nn, EO, ↓EP, EQ, EM, ↓reduceIte, Int.reduceAdd, Int.reduceEq, Int.reduceLE, Int.reduceLT, Int.reduceMul, Int.reduceNeg, Int.reducePow, Int.reduceSub, Int.reduceToNat, Nat.reduceAdd, Nat.reduceEqDiff, Nat.reduceLT, Nat.reduceLeDiff, Nat.reduceMul, reduceCtorEq, W_join, h4]
      exact hK _ w2 nil2
    obtain ⟨xa, rfl, cell⟩ := pos_cellsK hXr (by omega)
    have c0 := cell 0 (by omega)
    have c1 := cell 1 (by omega)
    rw [show ((0 : Nat) : Int) = 0 by rfl] at c0
    rw [show ((1 : Nat) : Int) = 1 by rfl] at c1
    by_cases h2 : 2 < at' l 0
    · rw [if_pos (.inr (.inl h2))] at hK
      simp (disch := omega) only [wu64, wu32, wu8, fdiv_nn, EO, ↓EP, EQ, EM, ↓reduceIte, Int.reduceAdd, Int.reduceEq, Int.reduceLE, Int.reduceLT, Int.reduceMul, Int.reduceNeg, Int.reducePow, Int.reduceSub, Int.reduceToNat, Nat.reduceAdd, Nat.reduceEqDiff, Nat.reduceLT, Nat.reduceLeDiff, Nat.reduceMul, reduceCtorEq, W_join, h4, c0, c1]
      exact hK _ w2 nil2
    by_cases h3 : at' l 0 < 2
    · by_cases h40 : 40 ≤ at' l 1
      · rw [if_pos (.inr (.inr ⟨h3, h40⟩))] at hK
        simp (disch := omega) only [wu64, wu32, wu8, fdiv_nn, EO, ↓EP, EQ, EM, ↓reduceIte, Int.reduceAdd, Int.reduceEq, Int.reduceLE, Int.reduceLT, Int.reduceMul, Int.reduceNeg, Int.reducePow, Int.reduceSub, Int.reduceToNat, Nat.reduceAdd, Nat.reduceEqDiff, Nat.reduceLT, Nat.reduceLeDiff, Nat.reduceMul, reduceCtorEq, W_join, h4, c0, c1]
        exact hK _ w2 nil2
      · rw [if_neg (fun h => by rcases h with h | h | h; exact hl2 h; exact h2 h; exact h40 h.2)] at hK
        simp (disch := omega) only [wu64, wu32, wu8, fdiv_nn, EO, ↓EP, EQ, EM, ↓reduceIte, Int.reduceAdd, Int.reduceEq, Int.reduceLE, Int.reduceLT, Int.reduceMul, Int.reduceNeg, Int.reducePow, Int.reduceSub, Int.reduceToNat, Nat.reduceAdd, Nat.reduceEqDiff, Nat.reduceLT, Nat.reduceLeDiff, Nat.reduceMul, reduceCtorEq, W_join, h4, c0, c1]
        exact hK _ w2 g
    · rw [if_neg (fun h => by rcases h with h | h | h; exact hl2 h; exact h2 h; exact h3 h.1)] at hK
      simp (disch := omega) only [wu64, wu32, wu8, fdiv_nn, EO, ↓EP, EQ, EM, ↓reduceIte, Int.reduceAdd, Int.reduceEq, Int.reduceLE, Int.reduceLT, Int.reduceMul, Int.reduceNeg, Int.reducePow, Int.reduceSub, Int.reduceToNat, Nat.reduceAdd, Nat.reduceEqDiff, Nat.reduceLT, Nat.reduceLeDiff, Nat.reduceMul, reduceCtorEq, W_join, h4, c0, c1]
      exact hK _ w2 g
end Go.Proofs.YtcflokckfjkdpaaDoor.Der
end
