/- Numbers by digits: bits and bytes of them. -/
import Derived.Test.YtbgfebhhejlakaaNd2
set_option linter.unusedVariables false
set_option linter.unusedSimpArgs false
namespace Go.Proofs.Ytbgfebhhejlakaa.Big
open Go Go.Proofs.Ytbgfebhhejlakaa.Eng

theorem dpw_p2 (k : Nat) : Dg.pw k = 2 ^ (16 * k) := by
  induction k with
  | zero => rw [Dg.pw_zero]; rfl
  | succ k ih => rw [Dg.pw_succ, ih, show 16 * (k + 1) = 16 * k + 16 by omega, Int.pow_add]; rfl
/-- Some bits of a digit. -/
theorem digit_bits {l : List Int} (hL : Dg.Lim l) (i r s : Nat) (hr : r + s ≤ 16) : at' l (i : Nat) / 2 ^ r % 2 ^ s = Dg.val l / 2 ^ (16 * i + r) % 2 ^ s := by
  have e1 : Dg.val l = Dg.val (l.take i) + Dg.pw i * Dg.val (l.drop i) := by
    by_cases h : i ≤ l.length
    · exact Dg.val_split l h
    · rw [List.take_of_length_le (by omega), List.drop_of_length_le (by omega), Dg.val_nil]; omega
  have b1 := Dg.val_bd (hL.take i)
  have e2 : Dg.val (l.drop i) = at' l (i : Nat) + 65536 * Dg.val (l.drop (i + 1)) := by
    by_cases h : i < l.length
    · rw [List.drop_eq_getElem_cons h, Dg.val_cons, at_get h]
    · rw [at_ge (by omega), List.drop_of_length_le (by omega), List.drop_of_length_le (by omega)]; rfl
  have bt : Dg.val (l.take i) < Dg.pw i := by
    have := Dg.pw_le (show (l.take i).length ≤ i by simp; omega)
    omega
  have hpw := Dg.pw_pos i
  have hd : Dg.val l / Dg.pw i = Dg.val (l.drop i) := by
    rw [e1, Int.add_mul_ediv_left _ _ (by omega), Int.ediv_eq_zero_of_lt b1.1 bt, Int.zero_add]
  have hp : (0 : Int) < 2 ^ r := p2_pos r
  have e3 : (2 : Int) ^ (16 * i + r) = Dg.pw i * 2 ^ r := by rw [dpw_p2, Int.pow_add]
  rw [e3, ← Int.ediv_ediv_of_nonneg (by omega), hd, e2]
  have e4 : (65536 : Int) = 2 ^ r * (2 ^ s * 2 ^ (16 - r - s)) := by
    rw [← Int.pow_add, ← Int.pow_add, show r + (s + (16 - r - s)) = 16 by omega]; rfl
  rw [e4, Int.mul_assoc, Int.add_mul_ediv_left _ _ (by omega), Int.mul_assoc, Int.add_mul_emod_self_left]
/-- Bytes, two by two. -/
def m8 : List Int → List Int
  | [] => []
  | [x] => [x]
  | x :: y :: r => (x + 256 * y) :: m8 r
theorem m8_val : ∀ (l : List Int), Dg.val (m8 l) = leb l
  | [] => rfl
  | [x] => by rw [m8, Dg.val_one, leb, leb]; omega
  | x :: y :: r => by rw [m8, Dg.val_cons, leb, leb, m8_val r]; omega
theorem m8_lim : ∀ {l : List Int}, Byt l → Dg.Lim (m8 l)
  | [], _ => Dg.Lim.nil
  | [x], h => by have := (h.cons).1; exact Dg.Lim.mk (by omega) (by omega) Dg.Lim.nil
  | x :: y :: r, h => by
    obtain ⟨hx, hr⟩ := h.cons
    obtain ⟨hy, hr⟩ := hr.cons
    exact Dg.Lim.mk (by omega) (by omega) (m8_lim hr)
theorem m8_len : ∀ (l : List Int), (m8 l).length = (l.length + 1) / 2
  | [] => by simp [m8]
  | [x] => by simp [m8]
  | x :: y :: r => by rw [m8, List.length_cons, m8_len r, List.length_cons, List.length_cons]; omega
theorem bl_lt {v : Int} (h : 0 ≤ v) : v < 2 ^ bl v := (bl_le h).1 (Nat.le_refl _)
end Go.Proofs.Ytbgfebhhejlakaa.Big
