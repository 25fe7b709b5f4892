/- Numbers by bytes: plain laws. -/
import Derived.Test.YtcflokckfjkdpaaDoorNm4
set_option linter.unusedVariables false
set_option linter.unusedSimpArgs false
namespace Go.Proofs.YtcflokckfjkdpaaDoor.Big
open Go Go.Proofs.YtcflokckfjkdpaaDoor.Eng

/-- The number of these bytes, the lowest first. -/
def leb : List Int → Int
  | [] => 0
  | x :: r => x + 256 * leb r
/-- So many bytes of a number, the lowest first. -/
def lebs : Nat → Int → List Int
  | 0, _ => []
  | n + 1, v => v % 256 :: lebs n (v / 256)
def Byt (l : List Int) : Prop := ∀ x ∈ l, 0 ≤ x ∧ x < 256
theorem Byt.nil : Byt [] := fun x h => by cases h
theorem Byt.cons {x : Int} {r : List Int} (h : Byt (x :: r)) : (0 ≤ x ∧ x < 256) ∧ Byt r := ⟨h x (by simp), fun y hy => h y (by simp [hy])⟩
theorem Byt.mk {x : Int} {r : List Int} (h0 : 0 ≤ x) (h1 : x < 256) (h : Byt r) : Byt (x :: r) := fun y hy => by
  rcases List.mem_cons.1 hy with rfl | hy
  · exact ⟨h0, h1⟩
  · exact h y hy
theorem Byt.app {a b : List Int} (ha : Byt a) (hb : Byt b) : Byt (a ++ b) := fun x hx => by
  rcases List.mem_append.1 hx with h | h
  · exact ha x h
  · exact hb x h
theorem Byt.take {l : List Int} (h : Byt l) (n : Nat) : Byt (l.take n) := fun x hx => h x (List.mem_of_mem_take hx)
theorem Byt.drop {l : List Int} (h : Byt l) (n : Nat) : Byt (l.drop n) := fun x hx => h x (List.mem_of_mem_drop hx)
theorem Byt.rev {l : List Int} (h : Byt l) : Byt l.reverse := fun x hx => h x (List.mem_reverse.1 hx)
theorem Byt.zeros (n : Nat) : Byt (List.replicate n 0) := fun x hx => by
  obtain ⟨_, rfl⟩ := List.mem_replicate.1 hx; omega
theorem Byt.set {l : List Int} (h : Byt l) (n : Nat) {x : Int} (h0 : 0 ≤ x) (h1 : x < 256) : Byt (l.set n x) := fun y hy => by
  rcases List.mem_or_eq_of_mem_set hy with h' | rfl
  · exact h y h'
  · exact ⟨h0, h1⟩
theorem Byt.at {l : List Int} (h : Byt l) (i : Int) : 0 ≤ at' l i ∧ at' l i < 256 := by
  unfold at'
  rw [List.getD_eq_getElem?_getD]
  cases e : l[i.toNat]? with
  | none => simp
  | some x => exact h x (List.mem_of_getElem? e)
theorem p8_pos (k : Nat) : (0 : Int) < 256 ^ k := Int.pow_pos (by decide)
theorem leb_bd : ∀ {l : List Int}, Byt l → 0 ≤ leb l ∧ leb l < 256 ^ l.length
  | [], _ => by rw [leb, List.length_nil]; omega
  | x :: r, h => by
    obtain ⟨hx, hr⟩ := h.cons
    have := leb_bd hr
    rw [leb, List.length_cons, Int.pow_succ]
    omega
theorem lebs_len : ∀ (n : Nat) (v : Int), (lebs n v).length = n
  | 0, _ => rfl
  | n + 1, v => by rw [lebs, List.length_cons, lebs_len n]
theorem lebs_byt : ∀ (n : Nat) (v : Int), Byt (lebs n v)
  | 0, _ => Byt.nil
  | n + 1, v => Byt.mk (by omega) (by omega) (lebs_byt n _)
theorem leb_lebs : ∀ (n : Nat) {v : Int}, 0 ≤ v → v < 256 ^ n → leb (lebs n v) = v
  | 0, v, h0, h1 => by rw [lebs, leb]; simp at h1; omega
  | n + 1, v, h0, h1 => by
    rw [lebs, leb, leb_lebs n (by omega) (by rw [Int.pow_succ] at h1; omega)]
    omega
theorem lebs_leb : ∀ {l : List Int}, Byt l → lebs l.length (leb l) = l
  | [], _ => rfl
  | x :: r, h => by
    obtain ⟨hx, hr⟩ := h.cons
    rw [List.length_cons, lebs, leb, show (x + 256 * leb r) % 256 = x by omega, show (x + 256 * leb r) / 256 = leb r by omega, lebs_leb hr]
theorem leb_app : ∀ (a b : List Int), leb (a ++ b) = leb a + 256 ^ a.length * leb b
  | [], b => by rw [List.nil_append, List.length_nil, leb]; omega
  | x :: a, b => by
    rw [List.cons_append, leb, leb, leb_app a b, List.length_cons, Int.pow_succ]
    grind
theorem leb_zeros (n : Nat) : leb (List.replicate n 0) = 0 := by
  induction n with
  | zero => rfl
  | succ n ih => rw [List.replicate_succ, leb, ih]; rfl
theorem leb_take_succ {l : List Int} {k : Nat} (h : k < l.length) : leb (l.take (k + 1)) = leb (l.take k) + at' l k * 256 ^ k := by
  have e : l.take (k + 1) = l.take k ++ [at' l k] := by
    rw [List.take_add_one, List.getElem?_eq_getElem h, at_get h]; rfl
  have hk : (l.take k).length = k := by rw [List.length_take]; omega
  rw [e, leb_app, hk, leb, leb]
  grind
theorem at_cons_zero (x : Int) (r : List Int) : at' (x :: r) 0 = x := rfl
theorem at_cons_succ (x : Int) (r : List Int) (k : Nat) : at' (x :: r) (k + 1 : Nat) = at' r k := by rw [at_nat, at_nat]; rfl
theorem at_lebs : ∀ (n : Nat) (v : Int) {k : Nat}, k < n → at' (lebs n v) k = v / 256 ^ k % 256
  | n + 1, v, 0, _ => by rw [lebs]; simp [at_cons_zero, at']
  | n + 1, v, k + 1, h => by
    rw [lebs, at_cons_succ, at_lebs n _ (by omega), Int.ediv_ediv_of_nonneg (show (0 : Int) ≤ 256 by decide), Int.pow_succ, Int.mul_comm]
theorem p8_pw (k : Nat) : pw k = 256 ^ (4 * k) := by
  rw [pw_p2, show (256 : Int) = 2 ^ 8 by rfl, ← Int.pow_mul, ← Nat.mul_assoc]
theorem p8_p2 (k : Nat) : (256 : Int) ^ k = 2 ^ (8 * k) := by rw [show (256 : Int) = 2 ^ 8 by rfl, ← Int.pow_mul]
theorem p8_add (a b : Nat) : (256 : Int) ^ (a + b) = 256 ^ a * 256 ^ b := Int.pow_add _ _ _
/-- A byte of a limb. -/
theorem limb_byte {l : List Int} (hL : Lim l) (i : Nat) : at' l (i / 4 : Nat) / 2 ^ (8 * (i % 4)) % 256 = val l / 256 ^ i % 256 := by
  have e1 : val l = val (l.take (i / 4)) + pw (i / 4) * val (l.drop (i / 4)) := by
    by_cases h : i / 4 ≤ l.length
    · exact val_split l h
    · rw [List.take_of_length_le (by omega), List.drop_of_length_le (by omega), val_nil]; omega
  have b1 := val_bd (hL.take (i / 4))
  have b2 := (hL.drop (i / 4)).at 0
  have e2 : val (l.drop (i / 4)) = at' l (i / 4 : Nat) + 4294967296 * val (l.drop (i / 4 + 1)) := by
    by_cases h : i / 4 < l.length
    · rw [List.drop_eq_getElem_cons h, val_cons, at_get h]
    · rw [at_ge (by omega), List.drop_of_length_le (by omega), List.drop_of_length_le (by omega)]; rfl
  have bt : val (l.take (i / 4)) < pw (i / 4) := by
    have := pw_le (show (l.take (i / 4)).length ≤ i / 4 by simp; omega)
    omega
  have hpw := pw_pos (i / 4)
  have e3 : (256 : Int) ^ i = pw (i / 4) * 2 ^ (8 * (i % 4)) := by
    rw [p8_pw, ← p8_p2, ← p8_add]; congr 1; omega
  have hd : val l / pw (i / 4) = val (l.drop (i / 4)) := by
    rw [e1, Int.add_mul_ediv_left _ _ (by omega), Int.ediv_eq_zero_of_lt b1.1 bt, Int.zero_add]
  rw [e3, ← Int.ediv_ediv_of_nonneg (by omega), hd, e2]
  have hr : i % 4 = 0 ∨ i % 4 = 1 ∨ i % 4 = 2 ∨ i % 4 = 3 := by omega
  rcases hr with h | h | h | h <;> rw [h] <;> simp <;> omega
/-- The bytes of a number, the highest first. -/
def bv (l : List Int) : Int := leb l.reverse
def bvs (n : Nat) (v : Int) : List Int := (lebs n v).reverse
theorem bvs_len (n : Nat) (v : Int) : (bvs n v).length = n := by unfold bvs; rw [List.length_reverse, lebs_len]
theorem bvs_byt (n : Nat) (v : Int) : Byt (bvs n v) := (lebs_byt n v).rev
theorem bv_bd {l : List Int} (h : Byt l) : 0 ≤ bv l ∧ bv l < 256 ^ l.length := by
  have := leb_bd h.rev
  rwa [List.length_reverse] at this
theorem bv_bvs {n : Nat} {v : Int} (h0 : 0 ≤ v) (h1 : v < 256 ^ n) : bv (bvs n v) = v := by
  unfold bv bvs; rw [List.reverse_reverse, leb_lebs n h0 h1]
theorem bvs_bv {l : List Int} (h : Byt l) : bvs l.length (bv l) = l := by
  unfold bv bvs
  have := lebs_leb h.rev
  rw [List.length_reverse] at this
  rw [this, List.reverse_reverse]
theorem at_rev {l : List Int} {i : Nat} (h : i < l.length) : at' l.reverse i = at' l (l.length - 1 - i : Nat) := by
  rw [at_get (by simpa using h), at_get (by omega), List.getElem_reverse]
theorem at_bvs {n : Nat} {v : Int} {i : Nat} (h : i < n) : at' (bvs n v) (n - 1 - i : Nat) = v / 256 ^ i % 256 := by
  unfold bvs
  rw [at_rev (by rw [lebs_len]; omega), lebs_len, show n - 1 - (n - 1 - i) = i by omega, at_lebs n v h]
theorem bvs_of {n : Nat} {v : Int} {l : List Int} (hl : l.length = n) (h : ∀ i, i < n → at' l (n - 1 - i : Nat) = v / 256 ^ i % 256) : l = bvs n v := by
  apply List.ext_getElem
  · rw [hl, bvs_len]
  · intro i h1 h2
    have e := h (n - 1 - i) (by omega)
    rw [show n - 1 - (n - 1 - i) = i by omega] at e
    have e2 := at_bvs (n := n) (v := v) (i := n - 1 - i) (by omega)
    rw [show n - 1 - (n - 1 - i) = i by omega] at e2
    rw [← at_get h1, ← at_get h2, e, e2]
theorem bv_zeros (n : Nat) (l : List Int) : bv (List.replicate n 0 ++ l) = bv l := by
  unfold bv
  rw [List.reverse_append, leb_app, List.reverse_replicate, leb_zeros]; omega
theorem bvs_zeros {m n : Nat} {v : Int} (h0 : 0 ≤ v) (h1 : v < 256 ^ n) : bvs (m + n) v = List.replicate m 0 ++ bvs n v := by
  have hB : Byt (List.replicate m 0 ++ bvs n v) := (Byt.zeros m).app (bvs_byt n v)
  have e := bvs_bv hB
  rw [List.length_append, List.length_replicate, bvs_len, bv_zeros, bv_bvs h0 h1] at e
  exact e
/-- How many bytes a number needs. -/
theorem bl_bytes {v : Int} (h : 0 ≤ v) (n : Nat) : (bl v + 7) / 8 ≤ n ↔ v < 256 ^ n := by
  rw [p8_p2, ← bl_le h]; omega
end Go.Proofs.YtcflokckfjkdpaaDoor.Big
