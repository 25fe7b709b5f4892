/- Numbers by limbs: what long division ends with. -/
import Derived.Test.YtcflokckfjkdpaaDoorNm3
set_option linter.unusedVariables false
set_option linter.unusedSimpArgs false
namespace Go.Proofs.YtcflokckfjkdpaaDoor.Big
open Go Go.Proofs.YtcflokckfjkdpaaDoor.Eng

theorem top_start {o : List Int} {x z j s : Nat} {V L : Int} (ho : o.length = x + 1) (hO : Lim o) (hz : z + (j + 2) = x + 1) (hv : val o = L * 2 ^ s) (hL : L < pw x) (hs : s < 32) (hlow : 2147483648 * pw (j + 1) ≤ V) : val (o.drop z) < V := by
  have h1 := val_split o (k := z) (by omega)
  have h2 := (val_bd (hO.take z)).1
  have hp : (0 : Int) < 2 ^ s := p2_pos s
  have h31 : (2 : Int) ^ s ≤ 2 ^ 31 := p2_mono (by omega)
  have e31 : (2 : Int) ^ 31 = 2147483648 := rfl
  have h3 : L * 2 ^ s < pw x * 2 ^ s := Int.mul_lt_mul_of_pos_right hL hp
  have h4 : pw x * 2 ^ s ≤ pw x * 2147483648 := Int.mul_le_mul_of_nonneg_left (by omega) (by have := pw_pos x; omega)
  have e : pw x = pw z * pw (j + 1) := by rw [← pw_add]; congr 1; omega
  have hz0 := pw_pos z
  have h5 : val (o.drop z) * pw z < 2147483648 * pw (j + 1) * pw z := by
    rw [e] at h4 h3
    have e1 : val (o.drop z) * pw z = pw z * val (o.drop z) := Int.mul_comm _ _
    have e2 : pw z * pw (j + 1) * 2147483648 = 2147483648 * pw (j + 1) * pw z := by grind
    omega
  have := lt_of_mul h5 (by omega)
  omega
theorem div_end {L R U Q : Int} {s : Nat} (hN : U + Q * (R * 2 ^ s) = L * 2 ^ s) (h0 : 0 ≤ U) (hU : U < R * 2 ^ s) : Q = L / R ∧ U = (L % R) * 2 ^ s := by
  have hp : (0 : Int) < 2 ^ s := p2_pos s
  have hr : (L - Q * R) * 2 ^ s = U := by grind
  have r0 : 0 ≤ L - Q * R := by
    by_cases h : 0 ≤ L - Q * R
    · exact h
    · have := mul_r (show L - Q * R ≤ -1 by omega) (show (0 : Int) ≤ 2 ^ s by omega)
      omega
  have r1 : L - Q * R < R := lt_of_mul (by rw [hr]; exact hU) (show (0 : Int) ≤ 2 ^ s by omega)
  obtain ⟨d1, d2⟩ := div_of (a := L) (q := Q) (b := R) (r := L - Q * R) (by omega) r0 r1
  exact ⟨d1.symm, by rw [d2, hr]⟩
theorem low_zero {us : List Int} {r : Int} {s : Nat} (h : val us = r * 2 ^ s) (hs : s < 32) : at' us 0 % 2 ^ s = 0 := by
  have e : (4294967296 : Int) = 2 ^ s * 2 ^ (32 - s) := by rw [← Int.pow_add, show s + (32 - s) = 32 by omega]; rfl
  cases us with
  | nil =>
    have : at' [] 0 = 0 := by rw [show (0 : Int) = ((0 : Nat) : Int) by rfl, at_ge (by simp)]; rfl
    rw [this]; simp
  | cons a t =>
    have e0 : at' (a :: t) 0 = a := rfl
    rw [e0]
    rw [val_cons] at h
    have : a = 2 ^ s * (r - 2 ^ (32 - s) * val t) := by grind
    rw [this]
    exact Int.mul_emod_right _ _
theorem rest_step {us rs : List Int} {i s : Nat} {x : Int} (hi : i < rs.length) (h : val (rs.take i) * 2 ^ s = val (us.take i) + (at' us i % 2 ^ s) * pw i)
    (hx : x * 2 ^ s = at' us i - at' us i % 2 ^ s + at' us (i + 1 : Nat) % 2 ^ s * 4294967296) : val ((rs.set i x).take (i + 1)) * 2 ^ s = val (us.take (i + 1)) + (at' us (i + 1 : Nat) % 2 ^ s) * pw (i + 1) := by
  rw [val_take_set hi, val_take_succ', pw_succ]
  have : x * pw i * 2 ^ s = (x * 2 ^ s) * pw i := by grind
  rw [Int.add_mul, this, h, hx]
  grind
theorem rest_end {us rs : List Int} {y s : Nat} {r : Int} (hus : y < us.length) (hU : Lim us) (hrs : rs.length = y) (h : val (rs.take y) * 2 ^ s = val (us.take y) + (at' us y % 2 ^ s) * pw y) (hv : val us = r * 2 ^ s) (hlt : val us < pw y) : val rs = r := by
  have hp : (0 : Int) < 2 ^ s := p2_pos s
  have h1 := val_split us (k := y) (by omega)
  have b1 := val_bd (hU.take y)
  have b2 := val_bd (hU.drop y)
  have hy := pw_pos y
  have h0 : val (us.drop y) = 0 := by
    by_cases h : val (us.drop y) = 0
    · exact h
    · have := mul_r (show 1 ≤ val (us.drop y) by omega) (show (0 : Int) ≤ pw y by omega)
      have e3 : val (us.drop y) * pw y = pw y * val (us.drop y) := Int.mul_comm _ _
      omega
  have e1 : at' us y = 0 := by
    rw [List.drop_eq_getElem_cons hus, val_cons] at h0
    have b3 := hU.at y
    have b4 := val_bd (hU.drop (y + 1))
    have e2 : us[y] = at' us y := (at_get hus).symm
    rw [e2] at h0
    omega
  rw [e1, Int.zero_emod, Int.zero_mul, Int.add_zero, val_take_all (by omega)] at h
  rw [h0] at h1
  have : val rs * 2 ^ s = r * 2 ^ s := by rw [h, ← hv, h1]; omega
  exact Int.eq_of_mul_eq_mul_right (by omega) this
/-- What is known of a window and of the divisor, before a guess. -/
theorem guess_known {win V : List Int} {j : Nat} (hw : win.length = j + 3) (hW : Lim win) (hV : V.length = j + 2) (hVl : Lim V) (hbig : 2147483648 ≤ at' V (j + 1 : Nat)) (hlt : val win < 4294967296 * val V) :
    at' win (j + 2 : Nat) ≤ at' V (j + 1 : Nat) ∧ ∀ q : Int, 0 ≤ q → q < 4294967296 →
      q * (at' V (j + 1 : Nat) * 4294967296 + at' V j) ≤ (at' win (j + 2 : Nat) * 4294967296 + at' win (j + 1 : Nat)) * 4294967296 + at' win j →
      (∀ Q, Q ≤ 4294967295 → Q * (at' V (j + 1 : Nat) * 4294967296 + at' V j) ≤ (at' win (j + 2 : Nat) * 4294967296 + at' win (j + 1 : Nat)) * 4294967296 + at' win j → Q ≤ q) →
      (q - 1) * val V ≤ val win ∧ val win < (q + 1) * val V := by
  obtain ⟨lw, w0, w1, hw3⟩ := top3 win hw hW
  obtain ⟨lv, v0, v1, hv2⟩ := top2 V hV hVl
  have hp := pw_pos j
  have a1 := hW.at (j + 1 : Nat)
  have a0 := hW.at (j : Nat)
  have b0 := hVl.at (j : Nat)
  refine ⟨?_, fun q q0 q1 hle hall => ?_⟩
  · refine top_le (W := pw j) (rest := at' win (j + 1 : Nat) * 4294967296 + at' win j) (v2 := at' V j) (Vl := lv) (Ul := lw) hp w0 (by omega) v1 (by omega) ?_
    rw [← hv2]
    refine Int.lt_of_le_of_lt ?_ hlt
    rw [hw3]
    grind
  · rw [hw3, hv2]
    refine knuth hp ⟨w0, w1⟩ ⟨v0, v1⟩ ?_ q0 q1 hle hall ?_
    · omega
    · rw [← hv2, ← hw3]; exact hlt
end Go.Proofs.YtcflokckfjkdpaaDoor.Big
