/- Object identifiers: what is answered, plainly. -/
import Derived.Test.YtcflokckfjkdpaaDoorDp1
import Derived.Lib.ItoaNum
import Derived.Laws.Strings
set_option linter.unusedVariables false
set_option linter.unusedSimpArgs false
namespace Go.Proofs.YtcflokckfjkdpaaDoor.Der
open Go Go.RowKit Go.Proofs.YtcflokckfjkdpaaDoor.Eng

/-- A text of these bytes. -/
def S (l : List UInt8) : ByteArray := ⟨l.toArray⟩
theorem S_size (l : List UInt8) : (S l).size = l.length := by simp [S, ByteArray.size]
theorem S_append (a b : List UInt8) : S a ++ S b = S (a ++ b) := by
  apply ByteArray.ext
  simp [S]
theorem S_toList (l : List UInt8) : (S l).toList = l := by
  rw [ByteArray.toList_eq]; simp [S]
theorem S_nil : S [] = ⟨#[]⟩ := rfl
theorem S_dot : S [46] = ⟨#[46]⟩ := rfl
theorem S_of (s : ByteArray) : S s.data.toList = s := by
  apply ByteArray.ext; simp [S]
/-- A number's digits. -/
def digsF : Nat → Nat → List UInt8
  | 0, _ => []
  | f + 1, u => if u < 10 then [UInt8.ofNat (48 + u)] else digsF f (u / 10) ++ [UInt8.ofNat (48 + u % 10)]
def digs (u : Nat) : List UInt8 := digsF 20 u
theorem digsF_eq : ∀ (f u : Nat), u < 10 ^ f → digsF f u = Lib.decDigits u ∨ f = 0
  | 0, u, h => .inr rfl
  | f + 1, u, h => by
    left
    rw [digsF, Lib.decDigits]
    by_cases h10 : u < 10
    · rw [if_pos h10, dif_pos h10]
    · rw [if_neg h10, dif_neg h10]
      rw [Nat.pow_succ] at h
      rcases digsF_eq f (u / 10) (by omega) with h' | h'
      · rw [h']
      · subst h'; simp at h; omega
theorem digs_eq {u : Nat} (h : u < 100000000000000000000) : Lib.decDigits u = digs u := by
  rcases digsF_eq 20 u (by simpa using h) with h' | h'
  · exact h'.symm
  · omega
theorem itoa_eq {n : Int} (h : 0 ≤ n) (h' : n < 100000000000000000000) : Lib.itoa n = digs n.toNat := by
  unfold Lib.itoa
  rw [if_neg (by omega), digs_eq (by omega)]
theorem digsF_len : ∀ (f u : Nat), (digsF f u).length ≤ f
  | 0, u => by simp [digsF]
  | f + 1, u => by
    rw [digsF]
    split
    · simp
    · have := digsF_len f (u / 10)
      simp; omega
theorem digs_len (u : Nat) : (digs u).length ≤ 20 := digsF_len 20 u
theorem digsF_ne : ∀ (f u : Nat), 0 < f → digsF f u ≠ []
  | 0, u, h => by omega
  | f + 1, u, h => by
    rw [digsF]
    split
    · simp
    · simp
theorem digs_ne (u : Nat) : digs u ≠ [] := digsF_ne 20 u (by omega)

def satA (v : Int) : Int := if 1099511627776 < v then 1099511627776 else v
/-- What is written of the numbers so far, and the error. -/
def oidGo : List Int → Int → List UInt8 → List UInt8 × Int
  | [], _, s => (s, 0)
  | x :: r, v, s =>
    if 128 ≤ x then oidGo r (satA (v * 128 + x % 128)) s
    else if s = [] then
      (if 2147483647 < satA (v * 128 + x % 128) - 40 * min (satA (v * 128 + x % 128) / 40) 2 then ([], 3)
       else oidGo r 0 (digs (min (satA (v * 128 + x % 128) / 40) 2).toNat ++ (46 :: digs (satA (v * 128 + x % 128) - 40 * min (satA (v * 128 + x % 128) / 40) 2).toNat)))
    else if 2147483647 < satA (v * 128 + x % 128) then ([], 3) else oidGo r 0 (s ++ (46 :: digs (satA (v * 128 + x % 128)).toNat))
/-- A number that does not begin in the shortest way. -/
def padGo : Bool → List Int → Bool
  | _, [] => false
  | f, x :: r => (decide (x = 128) && f) || padGo (decide (x < 128)) r
def oidR (d : List Int) : List UInt8 × Int :=
  if d.length = 0 ∨ 128 ≤ at' d (d.length - 1 : Nat) then ([], 6) else if padGo true d = true then ([], 6) else oidGo d 0 []

def arcsGo : List Int → List Int → Int → Nat → Option (List Int)
  | [], l, _, _ => some l
  | c :: r, l, v, n => if c = 46 ∧ 0 < n then arcsGo r (l ++ [v]) 0 0 else if c < 48 ∨ 57 < c ∨ (n = 1 ∧ v = 0) then none else arcsGo r l (satA (10 * v + (c - 48))) (min (n + 1) 20)
/-- An identifier's numbers. -/
def arcsR (s : List Int) : Option (List Int) :=
  match arcsGo (s ++ [46]) [] 0 0 with
  | none => none
  | some l => if l.length < 2 ∨ 2 < at' l 0 ∨ (at' l 0 < 2 ∧ 40 ≤ at' l 1) then none else some l
def putOidR (s : List Int) : List Int × Int :=
  match arcsR s with
  | none => ([], 6)
  | some l => if l.any (fun v => decide (2147483647 < v)) then ([], 3) else (sevenR (40 * at' l 0 + at' l 1).toNat ++ (l.drop 2).flatMap (fun v => sevenR v.toNat), 0)
end Go.Proofs.YtcflokckfjkdpaaDoor.Der
