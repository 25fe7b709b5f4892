/- Numbers by digits and by limbs: how they hang together. -/
import Derived.Test.YtbgfebhhejlakaaNd1
import Derived.Test.YtbgfebhhejlakaaNm6
set_option linter.unusedVariables false
set_option linter.unusedSimpArgs false
namespace Go.Proofs.Ytbgfebhhejlakaa.Big
open Go Go.Proofs.Ytbgfebhhejlakaa.Eng

theorem dpw (k : Nat) : pw k = Dg.pw (2 * k) := by
  induction k with
  | zero => rw [pw_zero, Nat.mul_zero, Dg.pw_zero]
  | succ k ih => rw [pw_succ, show 2 * (k + 1) = 2 * k + 1 + 1 by omega, Dg.pw_succ, Dg.pw_succ, ih]; omega
/-- Limbs, each in two digits. -/
def sp : List Int → List Int
  | [] => []
  | x :: r => x % 65536 :: x / 65536 :: sp r
theorem sp_app : ∀ (a b : List Int), sp (a ++ b) = sp a ++ sp b
  | [], _ => rfl
  | x :: a, b => by rw [List.cons_append, sp, sp, sp_app a b]; rfl
theorem sp_len : ∀ (l : List Int), (sp l).length = 2 * l.length
  | [] => rfl
  | x :: r => by rw [sp, List.length_cons, List.length_cons, sp_len r, List.length_cons]; omega
theorem sp_lim : ∀ {l : List Int}, Lim l → Dg.Lim (sp l)
  | [], _ => Dg.Lim.nil
  | x :: r, h => by
    obtain ⟨hx, hr⟩ := h.cons
    exact Dg.Lim.mk (by omega) (by omega) (Dg.Lim.mk (by omega) (by omega) (sp_lim hr))
theorem sp_val : ∀ (l : List Int), Dg.val (sp l) = val l
  | [] => rfl
  | x :: r => by rw [sp, Dg.val_cons, Dg.val_cons, val_cons, sp_val r]; omega
theorem sp_snoc (l : List Int) {k : Nat} (h : k < l.length) : sp (l.take (k + 1)) = sp (l.take k) ++ [at' l k % 65536, at' l k / 65536] := by
  have e : l.take (k + 1) = l.take k ++ [at' l k] := by
    rw [List.take_add_one, List.getElem?_eq_getElem h, at_get h]; rfl
  rw [e, sp_app]; rfl
/-- Digits, two by two. -/
def mrg : List Int → List Int
  | [] => []
  | [x] => [x]
  | x :: y :: r => (x + 65536 * y) :: mrg r
theorem mrg_val : ∀ (l : List Int), val (mrg l) = Dg.val l
  | [] => rfl
  | [x] => by rw [mrg, val_one, Dg.val_one]
  | x :: y :: r => by rw [mrg, val_cons, Dg.val_cons, Dg.val_cons, mrg_val r]; omega
theorem mrg_lim : ∀ {l : List Int}, Dg.Lim l → Lim (mrg l)
  | [], _ => Lim.nil
  | [x], h => by have := (h.cons).1; exact Lim.mk (by omega) (by omega) Lim.nil
  | x :: y :: r, h => by
    obtain ⟨hx, hr⟩ := h.cons
    obtain ⟨hy, hr⟩ := hr.cons
    exact Lim.mk (by omega) (by omega) (mrg_lim hr)
theorem mrg_len : ∀ (l : List Int), (mrg l).length = (l.length + 1) / 2
  | [] => by simp [mrg]
  | [x] => by simp [mrg]
  | x :: y :: r => by rw [mrg, List.length_cons, mrg_len r, List.length_cons, List.length_cons]; omega
theorem can_low {l : List Int} (hL : Lim l) (h : l = [] ∨ pw (l.length - 1) ≤ val l) : Big.Can l := by
  refine ⟨hL, ?_⟩
  rcases h with h | h
  · exact .inl h
  · by_cases h0 : l = []
    · exact .inl h0
    right
    intro ht
    obtain ⟨k, hk, hv⟩ := val_one_more h0
    rw [show l.length - 1 = k by omega] at ht h
    rw [ht] at hv
    have := (val_bd (hL.take k)).2
    rw [List.length_take, Nat.min_eq_left (by omega)] at this
    omega
theorem dpw_le {a b : Nat} (h : a ≤ b) : Dg.pw a ≤ Dg.pw b := Dg.pw_le h
theorem mrg_digs {v : Int} (h : 0 ≤ v) : mrg (Dg.digs v) = limbs v := by
  have hc := Dg.digs_can v
  have hv := Dg.digs_val h
  refine (can_low (mrg_lim hc.1) ?_).eq (by rw [mrg_val, hv])
  by_cases h0 : Dg.digs v = []
  · left; rw [h0]; rfl
  · right
    have hp := hc.pos h0
    have hlen : 0 < (Dg.digs v).length := List.length_pos_iff.2 h0
    rw [mrg_val, dpw, mrg_len]
    exact Int.le_trans (Dg.pw_le (by omega)) hp
/-- How many digits. -/
theorem digs_limbs_len {v : Int} (h : 0 ≤ v) : (Dg.digs v).length ≤ 2 * (limbs v).length := by
  refine (Dg.digs_len h).2 ?_
  rw [← dpw]
  exact (limbs_len h).1 (Nat.le_refl _)
theorem digs_len_of {v : Int} {n : Nat} (h : 0 ≤ v) (hn : v < pw n) : (Dg.digs v).length ≤ 2 * n := (Dg.digs_len h).2 (by rw [← dpw]; exact hn)
theorem digs_zero_iff {v : Int} (h : 0 ≤ v) : (Dg.digs v).length = 0 ↔ v = 0 := by
  constructor
  · intro hl; exact Dg.digs_nil h (List.length_eq_zero_iff.1 hl)
  · rintro rfl; rw [Dg.digs_zero]; rfl
end Go.Proofs.Ytbgfebhhejlakaa.Big
