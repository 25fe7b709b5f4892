/- Numbers by limbs: the plain laws of long division. -/
import Derived.Test.YtcflokckfjkdpaaDoorNm2
set_option linter.unusedVariables false
set_option linter.unusedSimpArgs false
namespace Go.Proofs.YtcflokckfjkdpaaDoor.Big
open Go Go.Proofs.YtcflokckfjkdpaaDoor.Eng

theorem mul_r {a b c : Int} (h : a ≤ b) (hc : 0 ≤ c) : a * c ≤ b * c := Int.mul_le_mul_of_nonneg_right h hc
theorem lt_of_mul {a b c : Int} (h : a * c < b * c) (hc : 0 ≤ c) : a < b := by
  by_cases hab : a < b
  · exact hab
  · have := mul_r (show b ≤ a by omega) hc
    omega
/-- A divisor, turned so that its highest limb is great. -/
theorem norm {v : Int} (hv : 0 < v) {y : Nat} (hy : (limbs v).length = y + 1) {s : Nat} (hs : bl (at' (limbs v) y) + s = 32) :
    (limbs (v * 2 ^ s)).length = y + 1 ∧ 2147483648 ≤ at' (limbs (v * 2 ^ s)) y ∧ 2147483648 * pw y ≤ v * 2 ^ s := by
  have hc := limbs_can v
  have h0 : at' (limbs v) y ≠ 0 := by
    rcases hc.2 with e | e
    · rw [e] at hy; simp at hy
    · rw [hy] at e; exact e
  have hb := bl_val hc.1 hy h0
  rw [limbs_val (by omega)] at hb
  obtain ⟨k, hk, h1, h2⟩ := bl_pos hv
  have hp : (0 : Int) < 2 ^ s := p2_pos s
  have e1 : k + s = 32 * y + 31 := by omega
  have hlow : (2 : Int) ^ (32 * y + 31) ≤ v * 2 ^ s := by
    rw [← e1, Int.pow_add]; exact mul_r h1 (by omega)
  have hup : v * 2 ^ s < 2 ^ (32 * (y + 1)) := by
    rw [show 32 * (y + 1) = (k + 1) + s by omega, Int.pow_add]
    exact Int.mul_lt_mul_of_pos_right h2 hp
  have hpos : 0 ≤ v * 2 ^ s := Int.mul_nonneg (by omega) (by omega)
  have h31 : (2 : Int) ^ (32 * y + 31) = 2147483648 * pw y := by rw [pw_p2, Int.pow_add, Int.mul_comm]; rfl
  have l1 : (limbs (v * 2 ^ s)).length ≤ y + 1 := (limbs_len hpos).2 (by rw [pw_p2]; exact hup)
  have l2 : ¬ (limbs (v * 2 ^ s)).length ≤ y := fun h => by
    have := (limbs_len hpos).1 h
    have := pw_pos y
    omega
  have l3 : (limbs (v * 2 ^ s)).length = y + 1 := by omega
  refine ⟨l3, ?_, by omega⟩
  have hL := limbs_lim (v * 2 ^ s)
  have e2 := val_take_succ' (limbs (v * 2 ^ s)) y
  rw [val_take_all (by omega), limbs_val hpos] at e2
  have b1 := val_bd (hL.take y)
  rw [List.length_take, Nat.min_eq_left (by omega)] at b1
  have : 2147483648 * pw y < (at' (limbs (v * 2 ^ s)) y + 1) * pw y := by
    rw [Int.add_mul]; omega
  have := lt_of_mul this (by have := pw_pos y; omega)
  omega
/-- A list's highest limbs. -/
theorem top2 (l : List Int) {j : Nat} (h : l.length = j + 2) (hL : Lim l) : ∃ low : Int, 0 ≤ low ∧ low < pw j ∧ val l = (at' l (j + 1 : Nat) * 4294967296 + at' l j) * pw j + low := by
  refine ⟨val (l.take j), (val_bd (hL.take j)).1, ?_, ?_⟩
  · have := (val_bd (hL.take j)).2
    rwa [List.length_take, Nat.min_eq_left (by omega)] at this
  · rw [← val_take_all (l := l) (n := j + 2) (by omega), val_take_succ' l (j + 1), val_take_succ' l j, pw_succ]
    grind
theorem top3 (l : List Int) {j : Nat} (h : l.length = j + 3) (hL : Lim l) : ∃ low : Int, 0 ≤ low ∧ low < pw j ∧ val l = ((at' l (j + 2 : Nat) * 4294967296 + at' l (j + 1 : Nat)) * 4294967296 + at' l j) * pw j + low := by
  refine ⟨val (l.take j), (val_bd (hL.take j)).1, ?_, ?_⟩
  · have := (val_bd (hL.take j)).2
    rwa [List.length_take, Nat.min_eq_left (by omega)] at this
  · rw [← val_take_all (l := l) (n := j + 3) (by omega), val_take_succ' l (j + 2), val_take_succ' l (j + 1), val_take_succ' l j, show pw (j + 2) = pw j * 4294967296 * 4294967296 by rw [pw_succ, pw_succ], pw_succ]
    grind
/-- What a guess by the highest limbs is worth. -/
theorem knuth {W U3 Ul V2 Vl q : Int} (hW : 0 < W) (hUl : 0 ≤ Ul ∧ Ul < W) (hVl : 0 ≤ Vl ∧ Vl < W) (hV2 : 9223372036854775808 ≤ V2) (hq0 : 0 ≤ q) (hq : q < 4294967296) (hle : q * V2 ≤ U3)
    (hall : ∀ Q, Q ≤ 4294967295 → Q * V2 ≤ U3 → Q ≤ q) (hU : U3 * W + Ul < 4294967296 * (V2 * W + Vl)) :
    (q - 1) * (V2 * W + Vl) ≤ U3 * W + Ul ∧ U3 * W + Ul < (q + 1) * (V2 * W + Vl) := by
  have hWV := mul_r hV2 (show 0 ≤ W by omega)
  have hqV : q * Vl ≤ 4294967295 * W := Int.mul_le_mul (by omega) (by omega) hVl.1 (by omega)
  have h1 := mul_r hle (show 0 ≤ W by omega)
  constructor
  · have e : (q - 1) * (V2 * W + Vl) = q * V2 * W + q * Vl - (V2 * W + Vl) := by grind
    rw [e]
    omega
  · by_cases hlt : U3 * W + Ul < (q + 1) * (V2 * W + Vl)
    · exact hlt
    · exfalso
      by_cases hb : q = 4294967295
      · subst hb; omega
      · have h2 : (q + 1) * V2 ≤ U3 := by
          have h3 : (q + 1) * V2 * W < (U3 + 1) * W := by
            have e : (q + 1) * (V2 * W + Vl) = (q + 1) * V2 * W + (q + 1) * Vl := by grind
            have := Int.mul_nonneg (show 0 ≤ q + 1 by omega) hVl.1
            have h4 : (U3 + 1) * W = U3 * W + W := by grind
            rw [h4]
            omega
          have := lt_of_mul h3 (by omega)
          omega
        have := hall (q + 1) (by omega) h2
        omega
theorem top_le {W u2 rest v1 v2 Vl Ul : Int} (hW : 0 < W) (hUl : 0 ≤ Ul) (hr : 0 ≤ rest) (hVl : Vl < W) (hv2 : v2 < 4294967296)
    (hU : (u2 * 18446744073709551616 + rest) * W + Ul < 4294967296 * ((v1 * 4294967296 + v2) * W + Vl)) : u2 ≤ v1 := by
  by_cases h : u2 ≤ v1
  · exact h
  · exfalso
    have h1 := mul_r (show (v1 + 1) * 18446744073709551616 ≤ u2 * 18446744073709551616 + rest by omega) (show 0 ≤ W by omega)
    have h2 := mul_r (show v1 * 4294967296 + v2 + 1 ≤ (v1 + 1) * 4294967296 by omega) (show 0 ≤ W by omega)
    grind
/-- A limb moved down. -/
theorem shr_limb {u0 u1 : Int} {s : Nat} (h0 : 0 ≤ u0 ∧ u0 < 4294967296) (h1 : 0 ≤ u1 ∧ u1 < 4294967296) (hs : s < 32) :
    ∃ x : Int, (u1 * 4294967296 + u0) / 2 ^ s % 4294967296 = x ∧ 0 ≤ x ∧ x < 4294967296 ∧ x * 2 ^ s = u0 - u0 % 2 ^ s + u1 % 2 ^ s * 4294967296 := by
  have hp : (0 : Int) < 2 ^ s := p2_pos s
  have hq : (0 : Int) < 2 ^ (32 - s) := p2_pos (32 - s)
  have e : (4294967296 : Int) = 2 ^ s * 2 ^ (32 - s) := by rw [← Int.pow_add, show s + (32 - s) = 32 by omega]; rfl
  have a1 := Int.mul_ediv_add_emod u0 (2 ^ s)
  have a2 := Int.emod_nonneg u0 (show (2 : Int) ^ s ≠ 0 by omega)
  have a3 := Int.emod_lt_of_pos u0 hp
  have b1 := Int.mul_ediv_add_emod u1 (2 ^ s)
  have b2 := Int.emod_nonneg u1 (show (2 : Int) ^ s ≠ 0 by omega)
  have b3 := Int.emod_lt_of_pos u1 hp
  have a4 : u0 / 2 ^ s < 2 ^ (32 - s) := by
    apply Int.ediv_lt_of_lt_mul hp
    rw [Int.mul_comm, ← e]; exact h0.2
  have a5 := Int.ediv_nonneg h0.1 (show (0 : Int) ≤ 2 ^ s by omega)
  have b5 := Int.ediv_nonneg h1.1 (show (0 : Int) ≤ 2 ^ s by omega)
  have hx : (u1 * 4294967296 + u0) / 2 ^ s = (u1 / 2 ^ s) * 4294967296 + (u1 % 2 ^ s * 2 ^ (32 - s) + u0 / 2 ^ s) := by
    have e2 : u1 * 4294967296 + u0 = 2 ^ s * (u1 * 2 ^ (32 - s) + u0 / 2 ^ s) + u0 % 2 ^ s := by grind
    rw [e2, Int.mul_add_ediv_left _ _ (by omega), Int.ediv_eq_zero_of_lt a2 a3]
    grind
  have hz0 : 0 ≤ u1 % 2 ^ s * 2 ^ (32 - s) := Int.mul_nonneg b2 (by omega)
  have hz1 := mul_r (show u1 % 2 ^ s + 1 ≤ 2 ^ s by omega) (show (0 : Int) ≤ 2 ^ (32 - s) by omega)
  rw [← e, Int.add_mul, Int.one_mul] at hz1
  refine ⟨u1 % 2 ^ s * 2 ^ (32 - s) + u0 / 2 ^ s, ?_, by omega, by omega, by grind⟩
  rw [hx]
  omega
theorem div_of {a q b r : Int} (h : a = q * b + r) (hr0 : 0 ≤ r) (hr1 : r < b) : a / b = q ∧ a % b = r := by
  constructor
  · rw [h, Int.mul_comm, Int.mul_add_ediv_left _ _ (by omega), Int.ediv_eq_zero_of_lt hr0 hr1, Int.add_zero]
  · rw [h, Int.mul_comm, Int.mul_add_emod_self_left, Int.emod_eq_of_lt hr0 hr1]
end Go.Proofs.YtcflokckfjkdpaaDoor.Big
