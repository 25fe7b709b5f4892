/- Numbers by limbs: plain laws. -/
import Derived.Test.YtcflokckfjkdpaaDoorEngL
set_option linter.unusedVariables false
set_option linter.unusedSimpArgs false
namespace Go.Proofs.YtcflokckfjkdpaaDoor.Big
open Go Go.Proofs.YtcflokckfjkdpaaDoor.Eng

/-! ### Powers of the base -/
def pw (k : Nat) : Int := 4294967296 ^ k
theorem pw_zero : pw 0 = 1 := rfl
theorem pw_one : pw 1 = 4294967296 := rfl
theorem pw_succ (k : Nat) : pw (k + 1) = pw k * 4294967296 := by unfold pw; exact Int.pow_succ _ _
theorem pw_pos (k : Nat) : 0 < pw k := by unfold pw; exact Int.pow_pos (by decide)
theorem pw_add (a b : Nat) : pw (a + b) = pw a * pw b := by unfold pw; exact Int.pow_add _ _ _
theorem pw_le {a b : Nat} (h : a ≤ b) : pw a ≤ pw b := by
  obtain ⟨d, rfl⟩ := Nat.exists_eq_add_of_le h
  rw [pw_add]
  have h1 := pw_pos a
  have h2 := pw_pos d
  have := Int.mul_le_mul_of_nonneg_left (show (1 : Int) ≤ pw d by omega) (show (0 : Int) ≤ pw a by omega)
  omega
attribute [irreducible] pw

/-! ### Lists of limbs -/
def val : List Int → Int
  | [] => 0
  | x :: r => x + 4294967296 * val r
def Lim (l : List Int) : Prop := ∀ x ∈ l, 0 ≤ x ∧ x < 4294967296
theorem val_nil : val [] = 0 := rfl
theorem val_cons (x : Int) (r : List Int) : val (x :: r) = x + 4294967296 * val r := rfl
theorem val_one (x : Int) : val [x] = x := by rw [val_cons, val_nil]; omega
theorem Lim.nil : Lim [] := fun x h => by cases h
theorem Lim.cons {x : Int} {r : List Int} (h : Lim (x :: r)) : (0 ≤ x ∧ x < 4294967296) ∧ Lim r := ⟨h x (by simp), fun y hy => h y (by simp [hy])⟩
theorem Lim.mk {x : Int} {r : List Int} (h0 : 0 ≤ x) (h1 : x < 4294967296) (h : Lim r) : Lim (x :: r) := fun y hy => by
  rcases List.mem_cons.1 hy with rfl | hy
  · exact ⟨h0, h1⟩
  · exact h y hy
theorem Lim.app {a b : List Int} (ha : Lim a) (hb : Lim b) : Lim (a ++ b) := fun x hx => by
  rcases List.mem_append.1 hx with h | h
  · exact ha x h
  · exact hb x h
theorem Lim.take {l : List Int} (h : Lim l) (n : Nat) : Lim (l.take n) := fun x hx => h x (List.mem_of_mem_take hx)
theorem Lim.drop {l : List Int} (h : Lim l) (n : Nat) : Lim (l.drop n) := fun x hx => h x (List.mem_of_mem_drop hx)
theorem Lim.set {l : List Int} (h : Lim l) (n : Nat) {x : Int} (h0 : 0 ≤ x) (h1 : x < 4294967296) : Lim (l.set n x) := fun y hy => by
  rcases List.mem_or_eq_of_mem_set hy with h' | rfl
  · exact h y h'
  · exact ⟨h0, h1⟩
theorem Lim.zeros (n : Nat) : Lim (List.replicate n 0) := fun x hx => by
  obtain ⟨_, rfl⟩ := List.mem_replicate.1 hx; omega
theorem at_nat (l : List Int) (k : Nat) : at' l k = l.getD k 0 := by unfold at'; rw [Int.toNat_natCast]
theorem Lim.at {l : List Int} (h : Lim l) (i : Int) : 0 ≤ at' l i ∧ at' l i < 4294967296 := by
  unfold at'
  rw [List.getD_eq_getElem?_getD]
  cases e : l[i.toNat]? with
  | none => simp
  | some x => exact h x (List.mem_of_getElem? e)
theorem at_ge {l : List Int} {k : Nat} (h : l.length ≤ k) : at' l k = 0 := by rw [at_nat, List.getD_eq_getElem?_getD, List.getElem?_eq_none h]; rfl
theorem at_get {l : List Int} {k : Nat} (h : k < l.length) : at' l k = l[k] := by rw [at_nat, List.getD_eq_getElem?_getD, List.getElem?_eq_getElem h]; rfl
theorem at_take {l : List Int} {k n : Nat} (h : k < n) : at' (l.take n) k = at' l k := by
  rw [at_nat, at_nat, List.getD_eq_getElem?_getD, List.getD_eq_getElem?_getD, List.getElem?_take, if_pos h]
theorem at_drop (l : List Int) (k n : Nat) : at' (l.drop n) k = at' l (n + k : Nat) := by
  rw [at_nat, at_nat, List.getD_eq_getElem?_getD, List.getD_eq_getElem?_getD, List.getElem?_drop]
theorem at_setN {l : List Int} {k : Nat} (h : k < l.length) (x : Int) : at' (l.set k x) k = x := by
  rw [at_nat, List.getD_eq_getElem?_getD, List.getElem?_set_self h]; rfl
theorem at_setO {l : List Int} {k j : Nat} (h : k ≠ j) (x : Int) : at' (l.set k x) j = at' l j := by
  rw [at_nat, at_nat, List.getD_eq_getElem?_getD, List.getD_eq_getElem?_getD, List.getElem?_set_ne h]
theorem at_app {a b : List Int} {k : Nat} (h : k < a.length) : at' (a ++ b) k = at' a k := by
  rw [at_nat, at_nat, List.getD_eq_getElem?_getD, List.getD_eq_getElem?_getD, List.getElem?_append_left h]
theorem at_zeros (n k : Nat) : at' (List.replicate n 0) k = 0 := by
  rw [at_nat, List.getD_eq_getElem?_getD, List.getElem?_replicate]; split <;> rfl

theorem val_app : ∀ (a b : List Int), val (a ++ b) = val a + pw a.length * val b
  | [], b => by rw [List.nil_append, List.length_nil, val_nil, pw_zero]; omega
  | x :: a, b => by
    rw [List.cons_append, val_cons, val_cons, val_app a b, List.length_cons, pw_succ]
    grind
theorem val_bd : ∀ {l : List Int}, Lim l → 0 ≤ val l ∧ val l < pw l.length
  | [], _ => by rw [val_nil, List.length_nil, pw_zero]; omega
  | x :: r, h => by
    obtain ⟨hx, hr⟩ := h.cons
    have := val_bd hr
    rw [val_cons, List.length_cons, pw_succ]
    omega
theorem val_zeros (n : Nat) : val (List.replicate n 0) = 0 := by
  induction n with
  | zero => rfl
  | succ n ih => rw [List.replicate_succ, val_cons, ih]; rfl
theorem val_take_succ {l : List Int} {k : Nat} (h : k < l.length) : val (l.take (k + 1)) = val (l.take k) + at' l k * pw k := by
  have e : l.take (k + 1) = l.take k ++ [at' l k] := by
    rw [List.take_add_one, List.getElem?_eq_getElem h, at_get h]; rfl
  have hk : (l.take k).length = k := by rw [List.length_take]; omega
  rw [e, val_app, hk, val_one]
  grind
theorem val_take_succ' (l : List Int) (k : Nat) : val (l.take (k + 1)) = val (l.take k) + at' l k * pw k := by
  by_cases h : k < l.length
  · exact val_take_succ h
  · rw [at_ge (by omega), List.take_of_length_le (by omega), List.take_of_length_le (by omega)]
    omega
theorem val_take_all {l : List Int} {n : Nat} (h : l.length ≤ n) : val (l.take n) = val l := by rw [List.take_of_length_le h]
theorem val_take_add {l : List Int} {k n : Nat} (h : k + n ≤ l.length) : val (l.take (k + n)) = val (l.take k) + pw k * val ((l.drop k).take n) := by
  have hk : (l.take k).length = k := by rw [List.length_take]; omega
  rw [List.take_add, val_app, hk]
theorem val_split (l : List Int) {k : Nat} (h : k ≤ l.length) : val l = val (l.take k) + pw k * val (l.drop k) := by
  have hk : (l.take k).length = k := by rw [List.length_take]; omega
  have := val_app (l.take k) (l.drop k)
  rwa [List.take_append_drop, hk] at this
theorem take_set {l : List Int} {k : Nat} {x : Int} : (l.set k x).take k = l.take k := by rw [List.take_set_of_le (Nat.le_refl _)]
theorem val_take_set {l : List Int} {k : Nat} {x : Int} (h : k < l.length) : val ((l.set k x).take (k + 1)) = val (l.take k) + x * pw k := by
  rw [val_take_succ (by rw [List.length_set]; exact h), take_set, at_setN h]
theorem val_set {l : List Int} {k : Nat} {x : Int} (h : k < l.length) : val (l.set k x) = val l + (x - at' l k) * pw k := by
  have h1 := val_split (l.set k x) (k := k + 1) (by rw [List.length_set]; omega)
  have h2 := val_split l (k := k + 1) (by omega)
  rw [val_take_set h, List.drop_set_of_lt (by omega)] at h1
  rw [val_take_succ h] at h2
  rw [h1, h2]
  grind
theorem val_one_more {l : List Int} (h : l ≠ []) : ∃ k : Nat, l.length = k + 1 ∧ val l = val (l.take k) + at' l k * pw k := by
  obtain ⟨k, hk⟩ : ∃ k, l.length = k + 1 := ⟨l.length - 1, by have := List.length_pos_iff.2 h; omega⟩
  refine ⟨k, hk, ?_⟩
  rw [← val_take_succ (by omega), ← hk, List.take_length]

/-! ### The one list of a number -/
def Can (l : List Int) : Prop := Lim l ∧ (l = [] ∨ at' l ((l.length - 1 : Nat) : Int) ≠ 0)
theorem Can.nil : Can [] := ⟨Lim.nil, .inl rfl⟩
theorem Can.pos {l : List Int} (h : Can l) (h0 : l ≠ []) : pw (l.length - 1) ≤ val l := by
  obtain ⟨k, hk, hv⟩ := val_one_more h0
  rcases h.2 with e | e
  · exact absurd e h0
  rw [show l.length - 1 = k by omega] at *
  have h1 := h.1.at k
  have h2 := val_bd (h.1.take k)
  have h3 := Int.mul_le_mul_of_nonneg_right (show (1 : Int) ≤ at' l k by omega) (show (0 : Int) ≤ pw k by have := pw_pos k; omega)
  omega
theorem Can.zero {l : List Int} (h : Can l) (hv : val l = 0) : l = [] := by
  by_cases h0 : l = []
  · exact h0
  · have := h.pos h0
    have := pw_pos (l.length - 1)
    omega
theorem Can.tail {x : Int} {r : List Int} (h : Can (x :: r)) : Can r := by
  refine ⟨h.1.cons.2, ?_⟩
  by_cases hr : r = []
  · exact .inl hr
  · rcases h.2 with e | e
    · cases e
    · right
      have := List.length_pos_iff.2 hr
      obtain ⟨k, hk⟩ : ∃ k, r.length = k + 1 := ⟨r.length - 1, by omega⟩
      rw [List.length_cons, hk] at e
      rw [hk]
      simp only [Nat.add_sub_cancel] at e ⊢
      rw [at_nat] at e ⊢
      simpa using e
theorem Can.uniq : ∀ {a b : List Int}, Can a → Can b → val a = val b → a = b
  | [], b, _, hb, h => (hb.zero h.symm).symm
  | x :: r, [], ha, _, h => ha.zero h
  | x :: r, y :: s, ha, hb, h => by
    rw [val_cons, val_cons] at h
    have h1 := ha.1.cons.1
    have h2 := hb.1.cons.1
    have e : x = y := by omega
    subst e
    rw [Can.uniq ha.tail hb.tail (by omega)]
def limbsN : Nat → List Int
  | 0 => []
  | n + 1 => (((n + 1) % 4294967296 : Nat) : Int) :: limbsN ((n + 1) / 4294967296)
termination_by n => n
decreasing_by omega
theorem limbsN_can : ∀ n : Nat, Can (limbsN n) ∧ val (limbsN n) = n := by
  intro n
  induction n using Nat.strongRecOn with
  | ind n ih =>
    cases n with
    | zero => rw [limbsN]; exact ⟨Can.nil, rfl⟩
    | succ n =>
      obtain ⟨hc, hv⟩ := ih ((n + 1) / 4294967296) (by omega)
      rw [limbsN]
      refine ⟨⟨Lim.mk (by omega) (by omega) hc.1, .inr ?_⟩, by rw [val_cons, hv]; omega⟩
      by_cases h0 : limbsN ((n + 1) / 4294967296) = []
      · rw [h0]
        rw [h0, val_nil] at hv
        rw [at_nat]
        simp only [List.length_cons, List.length_nil, Nat.add_sub_cancel]
        show (((n + 1) % 4294967296 : Nat) : Int) ≠ 0
        omega
      · rcases hc.2 with e | e
        · exact absurd e h0
        · have := List.length_pos_iff.2 h0
          obtain ⟨k, hk⟩ : ∃ k, (limbsN ((n + 1) / 4294967296)).length = k + 1 := ⟨(limbsN ((n + 1) / 4294967296)).length - 1, by omega⟩
          rw [hk] at e
          rw [List.length_cons, hk]
          simp only [Nat.add_sub_cancel] at e ⊢
          rw [at_nat] at e ⊢
          simpa using e
/-- The limbs of a number that is not below 0. -/
def limbs (v : Int) : List Int := limbsN v.toNat
theorem limbs_can (v : Int) : Can (limbs v) := (limbsN_can _).1
theorem limbs_val {v : Int} (h : 0 ≤ v) : val (limbs v) = v := by unfold limbs; rw [(limbsN_can _).2]; omega
theorem limbs_lim (v : Int) : Lim (limbs v) := (limbs_can v).1
theorem Can.eq {l : List Int} (h : Can l) {v : Int} (hv : val l = v) : l = limbs v := by
  have := val_bd h.1
  exact h.uniq (limbs_can v) (by rw [limbs_val (by omega)]; exact hv)
theorem limbs_zero : limbs 0 = [] := ((Can.nil).eq rfl).symm
theorem limbs_inj {a b : Int} (ha : 0 ≤ a) (hb : 0 ≤ b) (h : limbs a = limbs b) : a = b := by
  rw [← limbs_val ha, ← limbs_val hb, h]
theorem limbs_nil {v : Int} (h : 0 ≤ v) (hl : limbs v = []) : v = 0 := by
  have := limbs_val h
  rw [hl] at this
  exact this.symm
/-- Above the last limb that is not 0 there are only noughts. -/
theorem cut_can {l : List Int} (h : Lim l) {n : Nat} (hn : n ≤ l.length) (hz : ∀ j : Nat, n ≤ j → j < l.length → at' l j = 0) (ht : n = 0 ∨ at' l ((n - 1 : Nat) : Int) ≠ 0) : l.take n = limbs (val l) := by
  have hv : val (l.drop n) = 0 := by
    have : l.drop n = List.replicate (l.length - n) 0 := by
      apply List.ext_getElem
      · simp
      · intro i h1 h2
        simp only [List.length_drop] at h1
        rw [List.getElem_drop, List.getElem_replicate, ← at_get (by omega)]
        exact hz (n + i) (by omega) (by omega)
    rw [this, val_zeros]
  refine Can.eq ⟨h.take n, ?_⟩ (by rw [val_split l hn, hv]; omega)
  rcases ht with rfl | ht
  · left; simp
  · by_cases h0 : n = 0
    · left; subst h0; simp
    · right
      rw [List.length_take, Nat.min_eq_left hn, at_take (by omega)]
      exact ht
theorem limbs_len {v : Int} (h : 0 ≤ v) {k : Nat} : (limbs v).length ≤ k ↔ v < pw k := by
  have hv := limbs_val h
  have hb := val_bd (limbs_lim v)
  constructor
  · intro hk
    have := pw_le hk
    omega
  · intro hk
    by_cases h0 : limbs v = []
    · rw [h0]; exact Nat.zero_le _
    · have hp := (limbs_can v).pos h0
      rw [hv] at hp
      by_cases hle : (limbs v).length ≤ k
      · exact hle
      · have := pw_le (show k ≤ (limbs v).length - 1 by omega)
        omega
theorem Can.limbs {l : List Int} (h : Can l) : limbs (val l) = l := (h.eq rfl).symm
theorem Can.lt_of_len {a b : List Int} (ha : Can a) (hb : Can b) (h : a.length < b.length) : val a < val b := by
  have h1 := val_bd ha.1
  have h2 := hb.pos (by rintro rfl; simp at h)
  have := pw_le (show a.length ≤ b.length - 1 by omega)
  omega
attribute [irreducible] limbs
end Go.Proofs.YtcflokckfjkdpaaDoor.Big
