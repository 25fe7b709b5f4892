/- Rows of elements: what is answered, plainly. -/
import Derived.Test.YtcflokckfjkdpaaDoorBitD
set_option linter.unusedVariables false
set_option linter.unusedSimpArgs false
namespace Go.Proofs.YtcflokckfjkdpaaDoor.Der
open Go Go.RowKit Go.Proofs.YtcflokckfjkdpaaDoor.Eng

def tagGo : List Int → Bool → Int → Nat → Int × Nat × Int × Nat
  | [], _, _, i => (0, 0, 2, i)
  | x :: r, first, n, i =>
    if (first = true ∧ x = 128) ∨ 268435455 < n * 128 + x % 128 ∨ (x < 128 ∧ n * 128 + x % 128 < 31) then (0, 0, 30, i)
    else if x < 128 then (n * 128 + x % 128, i + 1, 0, 0) else tagGo r false (n * 128 + x % 128) (i + 1)
/-- The tag of a head at p, and the place behind it; or an error and its place. -/
def tagR (b : List Int) (p : Nat) : Int × Nat × Int × Nat :=
  if at' b p % 32 = 31 then tagGo (b.drop (p + 1)) true 0 (p + 1)
  else if at' b p % 32 = 0 ∧ at' b p < 64 then (0, 0, 30, p) else (at' b p % 32, p + 1, 0, 0)
def sat (n : Int) : Int := if 16777217 < n then 16777217 else n
def lenFold (l : List Int) : Int := l.foldl (fun n c => sat (n * 256 + c)) 0
/-- The length at i, and the place behind it; or an error and its place. -/
def lenR (b : List Int) (i : Nat) : Int × Nat × Int × Nat :=
  if b.length ≤ i then (0, 0, 2, b.length)
  else if at' b i < 128 then (if ((b.length - (i + 1) : Nat) : Int) < at' b i then (0, 0, 31, i) else (at' b i, i + 1, 0, 0))
  else if at' b i = 128 ∨ at' b i = 255 then (0, 0, 31, i)
  else if b.length < i + 1 + (at' b i - 128).toNat then (0, 0, 2, b.length)
  else if lenFold ((b.drop (i + 1)).take (at' b i - 128).toNat) < 128 ∨ at' b (i + 1) = 0 then (0, 0, 31, i)
  else if ((b.length - (i + 1 + (at' b i - 128).toNat) : Nat) : Int) < lenFold ((b.drop (i + 1)).take (at' b i - 128).toNat) then (0, 0, 31, i)
  else (lenFold ((b.drop (i + 1)).take (at' b i - 128).toNat), i + 1 + (at' b i - 128).toNat, 0, 0)
structure Tlv where
  cls : Int
  tag : Int
  cons : Bool
  data : List Int
  raw : List Int
deriving DecidableEq
def splitGo (b : List Int) : Nat → Nat → List Tlv → List Tlv × Int × Nat
  | 0, p, acc => (acc, 0, b.length)
  | f + 1, p, acc =>
    if b.length ≤ p then (acc, 0, b.length) else
    if acc.length = 65536 then ([], 4, p) else
    if (tagR b p).2.2.1 ≠ 0 then ([], (tagR b p).2.2.1, (tagR b p).2.2.2) else
    if (lenR b (tagR b p).2.1).2.2.1 ≠ 0 then ([], (lenR b (tagR b p).2.1).2.2.1, (lenR b (tagR b p).2.1).2.2.2) else
    splitGo b f ((lenR b (tagR b p).2.1).2.1 + (lenR b (tagR b p).2.1).1.toNat)
      (acc ++ [⟨at' b p / 64, (tagR b p).1, decide (at' b p / 32 % 2 = 1), (b.drop (lenR b (tagR b p).2.1).2.1).take (lenR b (tagR b p).2.1).1.toNat, (b.drop p).take ((lenR b (tagR b p).2.1).2.1 + (lenR b (tagR b p).2.1).1.toNat - p)⟩])
/-- The elements of which bytes consist; the error; its place. -/
def splitR (b : List Int) : List Tlv × Int × Nat := if 16777216 < b.length then ([], 3, 0) else splitGo b (b.length + 1) 0 []
def noTlv : Tlv := ⟨0, 0, false, [], []⟩
def oneR (b : List Int) : Tlv × Int :=
  if (splitR b).2.1 ≠ 0 then (noTlv, (splitR b).2.1)
  else match (splitR b).1 with
    | [] => (noTlv, 5)
    | [t] => (t, 0)
    | _ => (noTlv, 4)

/-! ### Elements that are laid -/
def sevenHi : Nat → Nat → List Int
  | 0, _ => []
  | f + 1, v => if v = 0 then [] else sevenHi f (v / 128) ++ [((v % 128 + 128 : Nat) : Int)]
def sevenR (v : Nat) : List Int := sevenHi 10 (v / 128) ++ [((v % 128 : Nat) : Int)]
def bytesBE : Nat → Nat → List Int
  | 0, _ => []
  | f + 1, v => if v = 0 then [] else bytesBE f (v / 256) ++ [((v % 256 : Nat) : Int)]
def lenBytes (n : Nat) : List Int := if n < 128 then [(n : Int)] else (128 + ((bytesBE 4 n).length : Int)) :: bytesBE 4 n
def headR (cls tag : Int) (cons : Bool) (n : Nat) : List Int :=
  (if tag < 31 then [cls * 64 + (if cons then 32 else 0) + tag] else (cls * 64 + (if cons then 32 else 0) + 31) :: sevenR tag.toNat) ++ lenBytes n
def putR (cls tag : Int) (cons : Bool) (data : List (List Int)) : List Int × Int :=
  if cls < 0 ∨ 3 < cls ∨ tag < 0 ∨ 268435455 < tag ∨ (cls = 0 ∧ tag = 0) then ([], 1)
  else if 16777216 < (data.map List.length).sum then ([], 3)
  else (headR cls tag cons (data.map List.length).sum ++ data.flatten, 0)

/-! ### Numbers -/
def boolR (d : List Int) : Bool × Int := if d.length ≠ 1 ∨ (at' d 0 ≠ 0 ∧ at' d 0 ≠ 255) then (false, 6) else (decide (at' d 0 = 255), 0)
def whole (d : List Int) : Bool := decide (d.length = 1) || (decide (1 < d.length) && !(decide (at' d 0 = 0 ∧ at' d 1 < 128)) && !(decide (at' d 0 = 255 ∧ 128 ≤ at' d 1)))
def beVal (d : List Int) : Int := d.foldl (fun n c => n * 256 + c) 0
def intR (d : List Int) : Int × Int := if whole d = false then (0, 6) else if 8 < d.length then (0, 3) else (IntKind.i64.wrap (beVal d - (if 128 ≤ at' d 0 then 256 ^ d.length else 0)), 0)
def putIntGo : Nat → Int → List Int
  | 0, n => [n % 256]
  | f + 1, n => if -128 ≤ n ∧ n < 128 then [n % 256] else putIntGo f (n / 256) ++ [n % 256]
def putIntR (n : Int) : List Int := putIntGo 8 n
/-! ### Bits -/
def bitsR (d : List Int) : List Int × Int × Int :=
  if d.length = 0 ∨ 7 < at' d 0 ∨ (at' d 0 ≠ 0 ∧ d.length = 1) then ([], 0, 6)
  else if at' d (d.length - 1) % 2 ^ (at' d 0).toNat ≠ 0 then ([], 0, 6)
  else (d.drop 1, at' d 0, 0)
/-- Bit i of a row, from the left. -/
def bitAt (b : List Int) (i : Nat) : Int := at' b (i / 8) / 2 ^ (7 - i % 8) % 2
def flagSum (b : List Int) : Nat → Int
  | 0 => 0
  | k + 1 => flagSum b k + bitAt b k * 2 ^ k
def flagsR (d : List Int) : Int × Int :=
  if (bitsR d).2.2 ≠ 0 then (0, (bitsR d).2.2) else if 4 < (bitsR d).1.length then (0, 3) else (flagSum (bitsR d).1 (8 * (bitsR d).1.length), 0)
end Go.Proofs.YtcflokckfjkdpaaDoor.Der
