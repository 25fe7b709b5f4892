/- Numbers by limbs: binary digits, order. -/
import Derived.Test.YtcflokckfjkdpaaDoorNm1
set_option linter.unusedVariables false
set_option linter.unusedSimpArgs false
namespace Go.Proofs.YtcflokckfjkdpaaDoor.Big
open Go Go.Proofs.YtcflokckfjkdpaaDoor.Eng

theorem p2_pos (k : Nat) : (0 : Int) < 2 ^ k := Int.pow_pos (by decide)
theorem p2_mono {a b : Nat} (h : a ≤ b) : (2 : Int) ^ a ≤ 2 ^ b := by
  obtain ⟨d, rfl⟩ := Nat.exists_eq_add_of_le h
  rw [Int.pow_add]
  have h1 := p2_pos a
  have h2 := p2_pos d
  have := Int.mul_le_mul_of_nonneg_left (show (1 : Int) ≤ 2 ^ d by omega) (show (0 : Int) ≤ 2 ^ a by omega)
  omega
theorem p2_lt {a b : Nat} (h : (2 : Int) ^ a < 2 ^ b) : a < b := by
  by_cases hab : a < b
  · exact hab
  · have := p2_mono (show b ≤ a by omega)
    omega
/-- How many binary digits. -/
def bl (v : Int) : Nat := if v ≤ 0 then 0 else Nat.log2 v.toNat + 1
theorem bl_zero : bl 0 = 0 := rfl
theorem bl_pos {v : Int} (h : 0 < v) : ∃ k : Nat, bl v = k + 1 ∧ (2 : Int) ^ k ≤ v ∧ v < 2 ^ (k + 1) := by
  refine ⟨Nat.log2 v.toNat, by unfold bl; rw [if_neg (by omega)], ?_, ?_⟩
  · have := Nat.log2_self_le (n := v.toNat) (by omega)
    have h2 : ((2 ^ Nat.log2 v.toNat : Nat) : Int) ≤ (v.toNat : Nat) := by exact_mod_cast this
    rw [Int.natCast_pow] at h2
    have : ((2 : Nat) : Int) = 2 := rfl
    rw [this] at h2
    omega
  · have := Nat.lt_log2_self (n := v.toNat)
    have h2 : ((v.toNat : Nat) : Int) < ((2 ^ (Nat.log2 v.toNat + 1) : Nat) : Int) := by exact_mod_cast this
    rw [Int.natCast_pow] at h2
    have : ((2 : Nat) : Int) = 2 := rfl
    rw [this] at h2
    omega
theorem bl_of {v : Int} {k : Nat} (h1 : (2 : Int) ^ k ≤ v) (h2 : v < 2 ^ (k + 1)) : bl v = k + 1 := by
  have := p2_pos k
  obtain ⟨j, hj, h3, h4⟩ := bl_pos (v := v) (by omega)
  have a := p2_lt (a := k) (b := j + 1) (by omega)
  have b := p2_lt (a := j) (b := k + 1) (by omega)
  omega
theorem bl_le {v : Int} (h0 : 0 ≤ v) {k : Nat} : bl v ≤ k ↔ v < 2 ^ k := by
  by_cases hv : v = 0
  · subst hv
    have := p2_pos k
    rw [bl_zero]
    exact ⟨fun _ => this, fun _ => Nat.zero_le _⟩
  · obtain ⟨j, hj, h3, h4⟩ := bl_pos (v := v) (by omega)
    rw [hj]
    constructor
    · intro h
      have := p2_mono h
      omega
    · intro h
      have := p2_lt (a := j) (b := k) (by omega)
      omega
theorem bl_mul {v u : Int} {k : Nat} (hu : 0 < u) (h1 : u * 2 ^ k ≤ v) (h2 : v < (u + 1) * 2 ^ k) : bl v = k + bl u := by
  obtain ⟨j, hj, h3, h4⟩ := bl_pos hu
  have hk := p2_pos k
  rw [hj, show k + (j + 1) = (j + k) + 1 by omega]
  refine bl_of ?_ ?_
  · rw [Int.pow_add]
    have := Int.mul_le_mul_of_nonneg_right h3 (show (0 : Int) ≤ 2 ^ k by omega)
    omega
  · rw [show j + k + 1 = (j + 1) + k by omega, Int.pow_add]
    have := Int.mul_le_mul_of_nonneg_right (show u + 1 ≤ 2 ^ (j + 1) by omega) (show (0 : Int) ≤ 2 ^ k by omega)
    omega
theorem bl_div {v : Int} {k : Nat} (h : (2 : Int) ^ k ≤ v) : bl v = k + bl (v / 2 ^ k) := by
  have hk := p2_pos k
  have h1 := Int.mul_ediv_add_emod v (2 ^ k)
  have h2 := Int.emod_nonneg v (show (2 : Int) ^ k ≠ 0 by omega)
  have h3 := Int.emod_lt_of_pos v hk
  refine bl_mul ?_ ?_ ?_
  · have := Int.le_ediv_of_mul_le hk (show 1 * 2 ^ k ≤ v by omega)
    omega
  · grind
  · grind
theorem pw_p2 (k : Nat) : pw k = 2 ^ (32 * k) := by
  induction k with
  | zero => rw [pw_zero]; rfl
  | succ k ih => rw [pw_succ, ih, show 32 * (k + 1) = 32 * k + 32 by omega, Int.pow_add]; rfl
theorem bl_val {l : List Int} (h : Lim l) {k : Nat} (hk : l.length = k + 1) (ht : at' l k ≠ 0) : bl (val l) = 32 * k + bl (at' l k) := by
  have h0 : l ≠ [] := by rintro rfl; simp at hk
  have hv : val l = val (l.take k) + at' l k * pw k := by
    rw [← val_take_succ (by omega), ← hk, List.take_length]
  have h1 := h.at k
  have h2 := val_bd (h.take k)
  rw [List.length_take, Nat.min_eq_left (by omega)] at h2
  rw [pw_p2] at hv h2
  refine bl_mul (by omega) (by omega) (by grind)

def lenTab : ByteArray := ⟨#[0, 1, 2, 2, 3, 3, 3, 3, 4, 4, 4, 4, 4, 4, 4, 4, 5, 5, 5, 5, 5, 5, 5, 5, 5, 5, 5, 5, 5, 5, 5, 5, 6, 6, 6, 6, 6, 6, 6, 6, 6, 6, 6, 6, 6, 6, 6, 6, 6, 6, 6, 6, 6, 6, 6, 6, 6, 6, 6, 6, 6, 6, 6, 6, 7, 7, 7, 7, 7, 7, 7, 7, 7, 7, 7, 7, 7, 7, 7, 7, 7, 7, 7, 7, 7, 7, 7, 7, 7, 7, 7, 7, 7, 7, 7, 7, 7, 7, 7, 7, 7, 7, 7, 7, 7, 7, 7, 7, 7, 7, 7, 7, 7, 7, 7, 7, 7, 7, 7, 7, 7, 7, 7, 7, 7, 7, 7, 7, 8, 8, 8, 8, 8, 8, 8, 8, 8, 8, 8, 8, 8, 8, 8, 8, 8, 8, 8, 8, 8, 8, 8, 8, 8, 8, 8, 8, 8, 8, 8, 8, 8, 8, 8, 8, 8, 8, 8, 8, 8, 8, 8, 8, 8, 8, 8, 8, 8, 8, 8, 8, 8, 8, 8, 8, 8, 8, 8, 8, 8, 8, 8, 8, 8, 8, 8, 8, 8, 8, 8, 8, 8, 8, 8, 8, 8, 8, 8, 8, 8, 8, 8, 8, 8, 8, 8, 8, 8, 8, 8, 8, 8, 8, 8, 8, 8, 8, 8, 8, 8, 8, 8, 8, 8, 8, 8, 8, 8, 8, 8, 8, 8, 8, 8, 8, 8, 8, 8, 8, 8, 8, 8, 8, 8, 8, 8, 8]⟩
theorem lenTab_all : ∀ n : Fin 256, ∃ h : n.1 < lenTab.size, (lenTab[n.1]'h).toNat = bl (n.1 : Int) := by decide +kernel
theorem lenTab_k {i : Int} (h0 : 0 ≤ i) (h1 : i < 256) {K : Value → Prop} (hK : K (.int .u8 (bl i : Int))) : ∃ h : i.toNat < lenTab.size, 0 ≤ i ∧ K (.int .u8 ((lenTab[i.toNat]'h).toNat : Int)) := by
  obtain ⟨h, e⟩ := lenTab_all ⟨i.toNat, by omega⟩
  refine ⟨h, h0, ?_⟩
  simp only at e
  rw [e, show ((i.toNat : Nat) : Int) = i by omega]
  exact hK
/-- Which is greater. -/
def cmpI (a b : Int) : Int := if a < b then -1 else if b < a then 1 else 0
theorem cmp_lt {a b : Int} (h : a < b) : cmpI a b = -1 := by unfold cmpI; rw [if_pos h]
theorem cmp_gt {a b : Int} (h : b < a) : cmpI a b = 1 := by unfold cmpI; rw [if_neg (by omega), if_pos h]
theorem cmp_eq {a b : Int} (h : a = b) : cmpI a b = 0 := by unfold cmpI; rw [if_neg (by omega), if_neg (by omega)]
theorem lt_top {a b : List Int} (ha : Lim a) (hb : Lim b) {k : Nat} (h1 : k < a.length) (h2 : k < b.length) (hd : a.drop (k + 1) = b.drop (k + 1)) (hlt : at' a k < at' b k) : val a < val b := by
  have e1 := val_split a (k := k + 1) (by omega)
  have e2 := val_split b (k := k + 1) (by omega)
  rw [val_take_succ h1] at e1
  rw [val_take_succ h2] at e2
  rw [hd] at e1
  have b1 := val_bd (ha.take k)
  have b2 := val_bd (hb.take k)
  rw [List.length_take, Nat.min_eq_left (by omega)] at b1 b2
  have := Int.mul_le_mul_of_nonneg_right (show at' a k + 1 ≤ at' b k by omega) (show (0 : Int) ≤ pw k by have := pw_pos k; omega)
  grind
theorem drop_same {a b : List Int} {k : Nat} (h1 : k < a.length) (h2 : k < b.length) (hd : a.drop (k + 1) = b.drop (k + 1)) (he : at' a k = at' b k) : a.drop k = b.drop k := by
  rw [List.drop_eq_getElem_cons h1, List.drop_eq_getElem_cons h2, hd, ← at_get h1, ← at_get h2, he]
end Go.Proofs.YtcflokckfjkdpaaDoor.Big
