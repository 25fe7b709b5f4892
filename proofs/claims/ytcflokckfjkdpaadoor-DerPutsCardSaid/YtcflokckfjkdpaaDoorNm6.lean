/- Numbers by limbs: what each function answers, in plain numbers. -/
import Derived.Test.YtcflokckfjkdpaaDoorNm5
set_option linter.unusedVariables false
set_option linter.unusedSimpArgs false
namespace Go.Proofs.YtcflokckfjkdpaaDoor.Big
open Go Go.Proofs.YtcflokckfjkdpaaDoor.Eng

def addR (l r : List Int) : List Int × Int :=
  if 512 < l.length ∨ 512 < r.length then ([], 3) else if 512 < (limbs (val l + val r)).length then ([], 3) else (limbs (val l + val r), 0)
def subR (l r : List Int) : List Int × Int :=
  if 512 < l.length ∨ 512 < r.length then ([], 3) else if val l < val r then ([], 10) else (limbs (val l - val r), 0)
def mulR (l r : List Int) : List Int × Int :=
  if 512 < l.length ∨ 512 < r.length then ([], 3) else if 512 < (limbs (val l * val r)).length then ([], 3) else (limbs (val l * val r), 0)
def divR (l r : List Int) : List Int × List Int × Int :=
  if 512 < l.length ∨ 512 < r.length then ([], [], 3) else if val r = 0 then ([], [], 11) else (limbs (val l / val r), limbs (val l % val r), 0)
def powR (b e m : List Int) : List Int × Int :=
  if 512 < b.length ∨ 256 < e.length ∨ 256 < m.length then ([], 3) else if val m = 0 then ([], 11) else (limbs (val b ^ (val e).toNat % val m), 0)
def isInv (a m y : Int) : Prop := 0 ≤ y ∧ y < m ∧ m ∣ a * y - 1
open Classical in
noncomputable def invR (a m : List Int) : List Int × Int :=
  if 512 < a.length ∨ 512 < m.length then ([], 3) else if val m = 0 then ([], 11) else if h : ∃ y, isInv (val a) (val m) y then (limbs (Classical.choose h), 0) else ([], 5)
def fbR (b : List Int) : List Int × Int := if 2048 < b.length then ([], 3) else (limbs (bv b), 0)
def tbR (a : List Int) (n : Int) : List Int × Int :=
  if 512 < a.length then ([], 3) else if n < 0 ∨ 2048 < n then ([], 1) else if n < ((bl (val a) + 7) / 8 : Nat) then ([], 3) else (bvs n.toNat (val a), 0)
theorem isInv_uniq {a m x y : Int} (hx : isInv a m x) (hy : isInv a m y) : x = y := by
  obtain ⟨x0, x1, u, hu⟩ := hx
  obtain ⟨y0, y1, v, hv⟩ := hy
  have e : x - y = m * (y * u - x * v) := by
    have h1 : y * (a * x - 1) = y * (m * u) := by rw [hu]
    have h2 : x * (a * y - 1) = x * (m * v) := by rw [hv]
    grind
  have hm : 0 < m := by omega
  generalize y * u - x * v = k at e
  have : k = 0 := by
    by_cases h1 : 1 ≤ k
    · have := Int.mul_le_mul_of_nonneg_left h1 (show 0 ≤ m by omega); omega
    by_cases h2 : k ≤ -1
    · have := Int.mul_le_mul_of_nonneg_left h2 (show 0 ≤ m by omega); omega
    omega
  subst this
  omega
theorem invR_some {a m : List Int} (h1 : ¬ (512 < a.length ∨ 512 < m.length)) (h2 : ¬ val m = 0) {y : Int} (hy : isInv (val a) (val m) y) : invR a m = (limbs y, 0) := by
  unfold invR
  rw [if_neg h1, if_neg h2, dif_pos ⟨y, hy⟩, isInv_uniq (Classical.choose_spec (⟨y, hy⟩ : ∃ y, isInv (val a) (val m) y)) hy]
theorem invR_none {a m : List Int} (h1 : ¬ (512 < a.length ∨ 512 < m.length)) (h2 : ¬ val m = 0) (hy : ∀ y, ¬ isInv (val a) (val m) y) : invR a m = ([], 5) := by
  unfold invR
  rw [if_neg h1, if_neg h2, dif_neg fun ⟨y, h⟩ => hy y h]
theorem limbs_one : limbs 1 = [1] := by
  have : Can [1] := ⟨fun x h => by simp at h; omega, .inr (by decide)⟩
  exact (this.eq (by decide)).symm
theorem limbs_of {v : Int} (h0 : 0 < v) (h1 : v < 4294967296) : limbs v = [v] := by
  have : Can [v] := ⟨fun x h => by simp at h; omega, .inr (by show v ≠ 0; omega)⟩
  exact (this.eq (by rw [val_one])).symm
theorem len_mono {a b : Int} (h0 : 0 ≤ a) (h : a ≤ b) : (limbs a).length ≤ (limbs b).length := by
  have := (limbs_len (v := b) (by omega) (k := (limbs b).length)).1 (Nat.le_refl _)
  exact (limbs_len h0).2 (by omega)
theorem len_val {l : List Int} (hL : Lim l) : (limbs (val l)).length ≤ l.length := (limbs_len (val_bd hL).1).2 (val_bd hL).2
theorem len_add {a b : Int} (ha : 0 ≤ a) (hb : 0 ≤ b) {n m : Nat} (h1 : (limbs a).length ≤ n) (h2 : (limbs b).length ≤ m) : (limbs (a + b)).length ≤ max n m + 1 := by
  have a1 := (limbs_len ha).1 (Nat.le_trans h1 (Nat.le_max_left n m))
  have a2 := (limbs_len hb).1 (Nat.le_trans h2 (Nat.le_max_right n m))
  refine (limbs_len (by omega)).2 ?_
  rw [pw_succ]
  omega
theorem len_mul {a b : Int} (ha : 0 ≤ a) (hb : 0 ≤ b) {n m : Nat} (h1 : (limbs a).length ≤ n) (h2 : (limbs b).length ≤ m) : (limbs (a * b)).length ≤ n + m := by
  have a1 := (limbs_len ha).1 h1
  have a2 := (limbs_len hb).1 h2
  refine (limbs_len (Int.mul_nonneg ha hb)).2 ?_
  rw [pw_add]
  have := pw_pos m
  calc a * b ≤ a * pw m := Int.mul_le_mul_of_nonneg_left (by omega) ha
    _ < pw n * pw m := Int.mul_lt_mul_of_pos_right a1 this
theorem mod_bd {a m : Int} (hm : 0 < m) : 0 ≤ a % m ∧ a % m < m := ⟨Int.emod_nonneg _ (by omega), Int.emod_lt_of_pos _ hm⟩
theorem pow_nn {a : Int} (h : 0 ≤ a) (n : Nat) : 0 ≤ a ^ n := Int.pow_nonneg h
theorem pow_pow (b : Int) (x n : Nat) : (b ^ x) ^ n = b ^ (x * n) := Int.pow_mul.symm
/-- Products of powers, modulo a number. -/
theorem pm_mul (b m : Int) (x y : Nat) : (b ^ x % m) * (b ^ y % m) % m = b ^ (x + y) % m := by
  rw [Int.pow_add, ← Int.mul_emod]
theorem pm_base (b m : Int) (x : Nat) : (b % m) ^ x % m = b ^ x % m := by
  induction x with
  | zero => rw [Int.pow_zero, Int.pow_zero]
  | succ x ih => rw [Int.pow_succ, Int.pow_succ, Int.mul_emod, ih, Int.emod_emod, ← Int.mul_emod]
theorem pm_one (b m : Int) : 1 % m = b ^ 0 % m := by rw [Int.pow_zero]
theorem pm_succ (b m : Int) (x : Nat) : (b ^ x % m) * (b % m) % m = b ^ (x + 1) % m := by rw [Int.pow_succ, ← Int.mul_emod]
/-- Four bits of a number. -/
theorem limb_bits {l : List Int} (hL : Lim l) (i : Nat) : at' l (i / 8 : Nat) / 2 ^ (4 * (i % 8)) % 16 = val l / 16 ^ i % 16 := by
  have hb := limb_byte hL (i / 2)
  have e1 : i / 2 / 4 = i / 8 := by omega
  rw [e1] at hb
  have e16 : (16 : Int) ^ i = 256 ^ (i / 2) * 16 ^ (i % 2) := by
    rw [show (256 : Int) = 16 ^ 2 by rfl, ← Int.pow_mul, ← Int.pow_add]; congr 1; omega
  rw [e16, ← Int.ediv_ediv_of_nonneg (by have := p8_pos (i / 2); omega)]
  have e2 : (2 : Int) ^ (4 * (i % 8)) = 2 ^ (8 * (i / 2 % 4)) * 16 ^ (i % 2) := by
    rw [show (16 : Int) = 2 ^ 4 by rfl, ← Int.pow_mul, ← Int.pow_add]; congr 1; omega
  rw [e2, ← Int.ediv_ediv_of_nonneg (by have := p2_pos (8 * (i / 2 % 4)); omega)]
  generalize at' l (i / 8 : Nat) / 2 ^ (8 * (i / 2 % 4)) = x at *
  generalize val l / 256 ^ (i / 2) = y at *
  rcases (show i % 2 = 0 ∨ i % 2 = 1 by omega) with h | h <;> rw [h] <;> simp <;> omega
theorem pow16 (i : Nat) : (16 : Int) ^ i = 2 ^ (4 * i) := by rw [show (16 : Int) = 2 ^ 4 by rfl, ← Int.pow_mul]
theorem p16_pos (i : Nat) : (0 : Int) < 16 ^ i := Int.pow_pos (by decide)
/-- One round of Euclid. -/
theorem euclid_step {A M S R X Y : Int} (hx : M ∣ A * X - R) (hy : M ∣ A * Y - S) : M ∣ A * (Y - S / R * X % M) - S % R := by
  obtain ⟨u, hu⟩ := hx
  obtain ⟨v, hv⟩ := hy
  have e1 := Int.mul_ediv_add_emod S R
  have e2 := Int.mul_ediv_add_emod (S / R * X) M
  refine ⟨v - S / R * u + A * (S / R * X / M), ?_⟩
  grind
theorem dvd_add_mul {M A Y S : Int} (hy : M ∣ A * Y - S) : M ∣ A * (Y + M) - S := by
  obtain ⟨v, hv⟩ := hy
  exact ⟨v + A, by grind⟩
end Go.Proofs.YtcflokckfjkdpaaDoor.Big
