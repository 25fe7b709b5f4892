/- RsaSalted: what is used, in one text. -/
import Derived.Laws.BitsAllLaws
import Derived.Test.YtcgplgpdcfocpaaGreatDoorRsaSaltedc0
set_option linter.unusedVariables false
set_option linter.unusedSimpArgs false
set_option maxRecDepth 100000
open Int renaming reduceAdd → Za, reduceEq → Zb, reduceLE → Zc, reduceLT → Zd, reduceMul → Ze, reduceNeg → Zf, reducePow → Zg, reduceSub → Zj, reduceToNat → Zk
open Nat renaming reduceAdd → Zl, reduceEqDiff → Zm, reduceLT → Zn, reduceLeDiff → Zp, reduceMul → Zq
section
namespace Go.Proofs.YtcgplgpdcfocpaaGreatDoor.Big
open Go Go.Proofs.YtcgplgpdcfocpaaGreatDoor.Eng
def pw (k : Nat) : Int := 4294967296 ^ k
theorem pw_zero : pw 0 = 1 := rfl
theorem pw_one : pw 1 = 4294967296 := rfl
theorem pw_succ (k : Nat) : pw (k + 1) = pw k * 4294967296 := by unfold pw; exact Int.pow_succ _ _
theorem pw_pos (k : Nat) : 0 < pw k := by unfold pw; exact Int.pow_pos (by decide)
theorem pw_add (a b : Nat) : pw (a + b) = pw a * pw b := by unfold pw; exact Int.pow_add _ _ _
theorem pw_le {a b : Nat} (h : a ≤ b) : pw a ≤ pw b := by
 obtain ⟨d, rfl⟩ := Nat.exists_eq_add_of_le h
 rw[pw_add]
 have h1 := pw_pos a
 have h2 := pw_pos d
 have := Int.mul_le_mul_of_nonneg_left (show (1 : Int) ≤ pw d by omega) (show (0 : Int) ≤ pw a by omega)
 omega
attribute [irreducible] pw
def val : List Int → Int
 | [] => 0
 | x :: r => x + 4294967296 * val r
def Lim (l : List Int) : Prop := ∀ x ∈ l, 0 ≤ x ∧ x < 4294967296
theorem val_nil : val [] = 0 := rfl
theorem val_cons (x : Int) (r : List Int) : val (x :: r) = x + 4294967296 * val r := rfl
theorem val_one (x : Int) : val [x] = x := by rw[val_cons,val_nil]; omega
theorem Lim.nil : Lim [] := fun x h => by cases h
theorem Lim.cons {x : Int} {r : List Int} (h : Lim (x :: r)) : (0 ≤ x ∧ x < 4294967296) ∧ Lim r := ⟨h x (by simp), fun y hy => h y (by simp[hy])⟩
theorem Lim.mk {x : Int} {r : List Int} (h0 : 0 ≤ x) (h1 : x < 4294967296) (h : Lim r) : Lim (x :: r) := fun y hy => by
 rcases List.mem_cons.1 hy with rfl | hy
 ·exact ⟨h0, h1⟩
 ·exact h y hy
theorem Lim.app {a b : List Int} (ha : Lim a) (hb : Lim b) : Lim (a ++ b) := fun x hx => by
 rcases List.mem_append.1 hx with h | h
 ·exact ha x h
 ·exact hb x h
theorem Lim.take {l : List Int} (h : Lim l) (n : Nat) : Lim (l.take n) := fun x hx => h x (List.mem_of_mem_take hx)
theorem Lim.drop {l : List Int} (h : Lim l) (n : Nat) : Lim (l.drop n) := fun x hx => h x (List.mem_of_mem_drop hx)
theorem Lim.set {l : List Int} (h : Lim l) (n : Nat) {x : Int} (h0 : 0 ≤ x) (h1 : x < 4294967296) : Lim (l.set n x) := fun y hy => by
 rcases List.mem_or_eq_of_mem_set hy with h' | rfl
 ·exact h y h'
 ·exact ⟨h0, h1⟩
theorem Lim.zeros (n : Nat) : Lim (List.replicate n 0) := fun x hx => by
 obtain ⟨_, rfl⟩ := List.mem_replicate.1 hx; omega
theorem at_nat (l : List Int) (k : Nat) : at' l k = l.getD k 0 := by unfold at'; rw[Int.toNat_natCast]
theorem Lim.at {l : List Int} (h : Lim l) (i : Int) : 0 ≤ at' l i ∧ at' l i < 4294967296 := by
 unfold at'
 rw[List.getD_eq_getElem?_getD]
 cases e : l[i.toNat]? with
 | none => simp
 | some x => exact h x (List.mem_of_getElem? e)
theorem at_ge {l : List Int} {k : Nat} (h : l.length ≤ k) : at' l k = 0 := by rw[at_nat,List.getD_eq_getElem?_getD,List.getElem?_eq_none h]; rfl
theorem at_get {l : List Int} {k : Nat} (h : k < l.length) : at' l k = l[k] := by rw[at_nat,List.getD_eq_getElem?_getD,List.getElem?_eq_getElem h]; rfl
theorem at_take {l : List Int} {k n : Nat} (h : k < n) : at' (l.take n) k = at' l k := by
 rw[at_nat,at_nat,List.getD_eq_getElem?_getD,List.getD_eq_getElem?_getD,List.getElem?_take,if_pos h]
theorem at_drop (l : List Int) (k n : Nat) : at' (l.drop n) k = at' l (n + k : Nat) := by
 rw[at_nat,at_nat,List.getD_eq_getElem?_getD,List.getD_eq_getElem?_getD,List.getElem?_drop]
theorem at_setN {l : List Int} {k : Nat} (h : k < l.length) (x : Int) : at' (l.set k x) k = x := by
 rw[at_nat,List.getD_eq_getElem?_getD,List.getElem?_set_self h]; rfl
theorem at_setO {l : List Int} {k j : Nat} (h : k ≠ j) (x : Int) : at' (l.set k x) j = at' l j := by
 rw[at_nat,at_nat,List.getD_eq_getElem?_getD,List.getD_eq_getElem?_getD,List.getElem?_set_ne h]
theorem at_app {a b : List Int} {k : Nat} (h : k < a.length) : at' (a ++ b) k = at' a k := by
 rw[at_nat,at_nat,List.getD_eq_getElem?_getD,List.getD_eq_getElem?_getD,List.getElem?_append_left h]
theorem at_zeros (n k : Nat) : at' (List.replicate n 0) k = 0 := by
 rw[at_nat,List.getD_eq_getElem?_getD,List.getElem?_replicate]; split <;> rfl
theorem val_app : ∀ (a b : List Int), val (a ++ b) = val a + pw a.length * val b
 | [], b => by rw[List.nil_append,List.length_nil,val_nil,pw_zero]; omega
 | x :: a, b => by
  rw[List.cons_append,val_cons,val_cons,val_app a b,List.length_cons,pw_succ]
  grind
theorem val_bd : ∀ {l : List Int}, Lim l → 0 ≤ val l ∧ val l < pw l.length
 | [], _ => by rw[val_nil,List.length_nil,pw_zero]; omega
 | x :: r, h => by
  obtain ⟨hx, hr⟩ := h.cons
  have := val_bd hr
  rw[val_cons,List.length_cons,pw_succ]
  omega
theorem val_zeros (n : Nat) : val (List.replicate n 0) = 0 := by
 induction n with
 | zero => rfl
 | succ n ih => rw[List.replicate_succ,val_cons,ih]; rfl
theorem val_take_succ {l : List Int} {k : Nat} (h : k < l.length) : val (l.take (k + 1)) = val (l.take k) + at' l k * pw k := by
 have e : l.take (k + 1) = l.take k ++ [at' l k] := by
  rw[List.take_add_one,List.getElem?_eq_getElem h,at_get h]; rfl
 have hk : (l.take k).length = k := by rw[List.length_take]; omega
 rw[e,val_app,hk,val_one]
 grind
theorem val_take_succ' (l : List Int) (k : Nat) : val (l.take (k + 1)) = val (l.take k) + at' l k * pw k := by
 by_cases h : k < l.length
 ·exact val_take_succ h
 ·rw[at_ge (by omega),List.take_of_length_le (by omega),List.take_of_length_le (by omega)]
  omega
theorem val_take_all {l : List Int} {n : Nat} (h : l.length ≤ n) : val (l.take n) = val l := by rw[List.take_of_length_le h]
theorem val_split (l : List Int) {k : Nat} (h : k ≤ l.length) : val l = val (l.take k) + pw k * val (l.drop k) := by
 have hk : (l.take k).length = k := by rw[List.length_take]; omega
 have := val_app (l.take k) (l.drop k)
 rwa [List.take_append_drop, hk] at this
theorem take_set {l : List Int} {k : Nat} {x : Int} : (l.set k x).take k = l.take k := by rw[List.take_set_of_le (Nat.le_refl _)]
theorem val_take_set {l : List Int} {k : Nat} {x : Int} (h : k < l.length) : val ((l.set k x).take (k + 1)) = val (l.take k) + x * pw k := by
 rw[val_take_succ (by rw [List.length_set]; exact h),take_set,at_setN h]
theorem val_set {l : List Int} {k : Nat} {x : Int} (h : k < l.length) : val (l.set k x) = val l + (x - at' l k) * pw k := by
 have h1 := val_split (l.set k x) (k := k + 1) (by rw[List.length_set]; omega)
 have h2 := val_split l (k := k + 1) (by omega)
 rw[val_take_set h,List.drop_set_of_lt (by omega)] at h1
 rw[val_take_succ h] at h2
 rw[h1,h2]
 grind
theorem val_one_more {l : List Int} (h : l ≠ []) : ∃ k : Nat, l.length = k + 1 ∧ val l = val (l.take k) + at' l k * pw k := by
 obtain ⟨k, hk⟩ : ∃ k, l.length = k + 1 := ⟨l.length - 1, by have := List.length_pos_iff.2 h; omega⟩
 refine ⟨k, hk, ?_⟩
 rw[← val_take_succ (by omega),← hk,List.take_length]
def Can (l : List Int) : Prop := Lim l ∧ (l = [] ∨ at' l ((l.length - 1 : Nat) : Int) ≠ 0)
theorem Can.nil : Can [] := ⟨Lim.nil, .inl rfl⟩
theorem Can.pos {l : List Int} (h : Can l) (h0 : l ≠ []) : pw (l.length - 1) ≤ val l := by
 obtain ⟨k, hk, hv⟩ := val_one_more h0
 rcases h.2 with e | e
 ·exact absurd e h0
 rw[show l.length - 1 = k by omega] at *
 have h1 := h.1.at k
 have h2 := val_bd (h.1.take k)
 have h3 := Int.mul_le_mul_of_nonneg_right (show (1 : Int) ≤ at' l k by omega) (show (0 : Int) ≤ pw k by have := pw_pos k; omega)
 omega
theorem Can.zero {l : List Int} (h : Can l) (hv : val l = 0) : l = [] := by
 by_cases h0 : l = []
 ·exact h0
 ·have := h.pos h0
  have := pw_pos (l.length - 1)
  omega
theorem Can.tail {x : Int} {r : List Int} (h : Can (x :: r)) : Can r := by
 refine ⟨h.1.cons.2, ?_⟩
 by_cases hr : r = []
 ·exact .inl hr
 ·rcases h.2 with e | e
  ·cases e
  ·right
   have := List.length_pos_iff.2 hr
   obtain ⟨k, hk⟩ : ∃ k, r.length = k + 1 := ⟨r.length - 1, by omega⟩
   rw[List.length_cons,hk] at e
   rw[hk]
   simp only[Nat.add_sub_cancel] at e ⊢
   rw[at_nat] at e ⊢
   simpa using e
theorem Can.uniq : ∀ {a b : List Int}, Can a → Can b → val a = val b → a = b
 | [], b, _, hb, h => (hb.zero h.symm).symm
 | x :: r, [], ha, _, h => ha.zero h
 | x :: r, y :: s, ha, hb, h => by
  rw[val_cons,val_cons] at h
  have h1 := ha.1.cons.1
  have h2 := hb.1.cons.1
  have e : x = y := by omega
  subst e
  rw[Can.uniq ha.tail hb.tail (by omega)]
def limbsN : Nat → List Int
 | 0 => []
 | n + 1 => (((n + 1) % 4294967296 : Nat) : Int) :: limbsN ((n + 1) / 4294967296)
termination_by n => n
decreasing_by omega
theorem limbsN_can : ∀ n : Nat, Can (limbsN n) ∧ val (limbsN n) = n := by
 intro n
 induction n using Nat.strongRecOn with
 | ind n ih =>
  cases n with
  | zero => rw[limbsN]; exact ⟨Can.nil, rfl⟩
  | succ n =>
   obtain ⟨hc, hv⟩ := ih ((n + 1) / 4294967296) (by omega)
   rw[limbsN]
   refine ⟨⟨Lim.mk (by omega) (by omega) hc.1, .inr ?_⟩, by rw[val_cons,hv]; omega⟩
   by_cases h0 : limbsN ((n + 1) / 4294967296) = []
   ·rw[h0]
    rw[h0,val_nil] at hv
    rw[at_nat]
    simp only[List.length_cons,List.length_nil,Nat.add_sub_cancel]
    show (((n + 1) % 4294967296 : Nat) : Int) ≠ 0
    omega
   ·rcases hc.2 with e | e
    ·exact absurd e h0
    ·have := List.length_pos_iff.2 h0
     obtain ⟨k, hk⟩ : ∃ k, (limbsN ((n + 1) / 4294967296)).length = k + 1 := ⟨(limbsN ((n + 1) / 4294967296)).length - 1, by omega⟩
     rw[hk] at e
     rw[List.length_cons,hk]
     simp only[Nat.add_sub_cancel] at e ⊢
     rw[at_nat] at e ⊢
     simpa using e
def limbs (v : Int) : List Int := limbsN v.toNat
theorem limbs_can (v : Int) : Can (limbs v) := (limbsN_can _).1
theorem limbs_val {v : Int} (h : 0 ≤ v) : val (limbs v) = v := by unfold limbs; rw[(limbsN_can _).2]; omega
theorem limbs_lim (v : Int) : Lim (limbs v) := (limbs_can v).1
theorem Can.eq {l : List Int} (h : Can l) {v : Int} (hv : val l = v) : l = limbs v := by
 have := val_bd h.1
 exact h.uniq (limbs_can v) (by rw[limbs_val (by omega)]; exact hv)
theorem limbs_zero : limbs 0 = [] := ((Can.nil).eq rfl).symm
theorem limbs_nil {v : Int} (h : 0 ≤ v) (hl : limbs v = []) : v = 0 := by
 have := limbs_val h
 rw[hl] at this
 exact this.symm
theorem cut_can {l : List Int} (h : Lim l) {n : Nat} (hn : n ≤ l.length) (hz : ∀ j : Nat, n ≤ j → j < l.length → at' l j = 0) (ht : n = 0 ∨ at' l ((n - 1 : Nat) : Int) ≠ 0) : l.take n = limbs (val l) := by
 have hv : val (l.drop n) = 0 := by
  have : l.drop n = List.replicate (l.length - n) 0 := by
   apply List.ext_getElem
   ·simp
   ·intro i h1 h2
    simp only[List.length_drop] at h1
    rw[List.getElem_drop,List.getElem_replicate,← at_get (by omega)]
    exact hz (n + i) (by omega) (by omega)
  rw[this,val_zeros]
 refine Can.eq ⟨h.take n, ?_⟩ (by rw[val_split l hn,hv]; omega)
 rcases ht with rfl | ht
 ·left; simp
 ·by_cases h0 : n = 0
  ·left; subst h0; simp
  ·right
   rw[List.length_take,Nat.min_eq_left hn,at_take (by omega)]
   exact ht
theorem limbs_len {v : Int} (h : 0 ≤ v) {k : Nat} : (limbs v).length ≤ k ↔ v < pw k := by
 have hv := limbs_val h
 have hb := val_bd (limbs_lim v)
 constructor
 ·intro hk
  have := pw_le hk
  omega
 ·intro hk
  by_cases h0 : limbs v = []
  ·rw[h0]; exact Nat.zero_le _
  ·have hp := (limbs_can v).pos h0
   rw[hv] at hp
   by_cases hle : (limbs v).length ≤ k
   ·exact hle
   ·have := pw_le (show k ≤ (limbs v).length - 1 by omega)
    omega
theorem Can.limbs {l : List Int} (h : Can l) : limbs (val l) = l := (h.eq rfl).symm
theorem Can.lt_of_len {a b : List Int} (ha : Can a) (hb : Can b) (h : a.length < b.length) : val a < val b := by
 have h1 := val_bd ha.1
 have h2 := hb.pos (by rintro rfl; simp at h)
 have := pw_le (show a.length ≤ b.length - 1 by omega)
 omega
attribute [irreducible] limbs
end Go.Proofs.YtcgplgpdcfocpaaGreatDoor.Big
end
section
namespace Go.Proofs.YtcgplgpdcfocpaaGreatDoor.Big
open Go Go.Proofs.YtcgplgpdcfocpaaGreatDoor.Eng
theorem p2_pos (k : Nat) : (0 : Int) < 2 ^ k := Int.pow_pos (by decide)
theorem p2_mono {a b : Nat} (h : a ≤ b) : (2 : Int) ^ a ≤ 2 ^ b := by
 obtain ⟨d, rfl⟩ := Nat.exists_eq_add_of_le h
 rw[Int.pow_add]
 have h1 := p2_pos a
 have h2 := p2_pos d
 have := Int.mul_le_mul_of_nonneg_left (show (1 : Int) ≤ 2 ^ d by omega) (show (0 : Int) ≤ 2 ^ a by omega)
 omega
theorem p2_lt {a b : Nat} (h : (2 : Int) ^ a < 2 ^ b) : a < b := by
 by_cases hab : a < b
 ·exact hab
 ·have := p2_mono (show b ≤ a by omega)
  omega
def bl (v : Int) : Nat := if v ≤ 0 then 0 else Nat.log2 v.toNat + 1
theorem bl_zero : bl 0 = 0 := rfl
theorem bl_pos {v : Int} (h : 0 < v) : ∃ k : Nat, bl v = k + 1 ∧ (2 : Int) ^ k ≤ v ∧ v < 2 ^ (k + 1) := by
 refine ⟨Nat.log2 v.toNat, by unfold bl; rw[if_neg (by omega)], ?_, ?_⟩
 ·have := Nat.log2_self_le (n := v.toNat) (by omega)
  have h2 : ((2 ^ Nat.log2 v.toNat : Nat) : Int) ≤ (v.toNat : Nat) := by exact_mod_cast this
  rw[Int.natCast_pow] at h2
  have : ((2 : Nat) : Int) = 2 := rfl
  rw[this] at h2
  omega
 ·have := Nat.lt_log2_self (n := v.toNat)
  have h2 : ((v.toNat : Nat) : Int) < ((2 ^ (Nat.log2 v.toNat + 1) : Nat) : Int) := by exact_mod_cast this
  rw[Int.natCast_pow] at h2
  have : ((2 : Nat) : Int) = 2 := rfl
  rw[this] at h2
  omega
theorem bl_of {v : Int} {k : Nat} (h1 : (2 : Int) ^ k ≤ v) (h2 : v < 2 ^ (k + 1)) : bl v = k + 1 := by
 have := p2_pos k
 obtain ⟨j, hj, h3, h4⟩ := bl_pos (v := v) (by omega)
 have a := p2_lt (a := k) (b := j + 1) (by omega)
 have b := p2_lt (a := j) (b := k + 1) (by omega)
 omega
theorem bl_le {v : Int} (h0 : 0 ≤ v) {k : Nat} : bl v ≤ k ↔ v < 2 ^ k := by
 by_cases hv : v = 0
 ·subst hv
  have := p2_pos k
  rw[bl_zero]
  exact ⟨fun _ => this, fun _ => Nat.zero_le _⟩
 ·obtain ⟨j, hj, h3, h4⟩ := bl_pos (v := v) (by omega)
  rw[hj]
  constructor
  ·intro h
   have := p2_mono h
   omega
  ·intro h
   have := p2_lt (a := j) (b := k) (by omega)
   omega
theorem bl_mul {v u : Int} {k : Nat} (hu : 0 < u) (h1 : u * 2 ^ k ≤ v) (h2 : v < (u + 1) * 2 ^ k) : bl v = k + bl u := by
 obtain ⟨j, hj, h3, h4⟩ := bl_pos hu
 have hk := p2_pos k
 rw[hj, show k + (j + 1) = (j + k) + 1 by omega]
 refine bl_of ?_ ?_
 ·rw[Int.pow_add]
  have := Int.mul_le_mul_of_nonneg_right h3 (show (0 : Int) ≤ 2 ^ k by omega)
  omega
 ·rw[show j + k + 1 = (j + 1) + k by omega, Int.pow_add]
  have := Int.mul_le_mul_of_nonneg_right (show u + 1 ≤ 2 ^ (j + 1) by omega) (show (0 : Int) ≤ 2 ^ k by omega)
  omega
theorem bl_div {v : Int} {k : Nat} (h : (2 : Int) ^ k ≤ v) : bl v = k + bl (v / 2 ^ k) := by
 have hk := p2_pos k
 have h1 := Int.mul_ediv_add_emod v (2 ^ k)
 have h2 := Int.emod_nonneg v (show (2 : Int) ^ k ≠ 0 by omega)
 have h3 := Int.emod_lt_of_pos v hk
 refine bl_mul ?_ ?_ ?_
 ·have := Int.le_ediv_of_mul_le hk (show 1 * 2 ^ k ≤ v by omega)
  omega
 ·grind
 ·grind
theorem pw_p2 (k : Nat) : pw k = 2 ^ (32 * k) := by
 induction k with
 | zero => rw[pw_zero]; rfl
 | succ k ih => rw[pw_succ, ih, show 32 * (k + 1) = 32 * k + 32 by omega, Int.pow_add]; rfl
theorem bl_val {l : List Int} (h : Lim l) {k : Nat} (hk : l.length = k + 1) (ht : at' l k ≠ 0) : bl (val l) = 32 * k + bl (at' l k) := by
 have h0 : l ≠ [] := by rintro rfl; simp at hk
 have hv : val l = val (l.take k) + at' l k * pw k := by
  rw[← val_take_succ (by omega),← hk,List.take_length]
 have h1 := h.at k
 have h2 := val_bd (h.take k)
 rw[List.length_take,Nat.min_eq_left (by omega)] at h2
 rw[pw_p2] at hv h2
 refine bl_mul (by omega) (by omega) (by grind)
def lenTab : ByteArray := ⟨#[0, 1, 2, 2, 3, 3, 3, 3, 4, 4, 4, 4, 4, 4, 4, 4, 5, 5, 5, 5, 5, 5, 5, 5, 5, 5, 5, 5, 5, 5, 5, 5, 6, 6, 6, 6, 6, 6, 6, 6, 6, 6, 6, 6, 6, 6, 6, 6, 6, 6, 6, 6, 6, 6, 6, 6, 6, 6, 6, 6, 6, 6, 6, 6, 7, 7, 7, 7, 7, 7, 7, 7, 7, 7, 7, 7, 7, 7, 7, 7, 7, 7, 7, 7, 7, 7, 7, 7, 7, 7, 7, 7, 7, 7, 7, 7, 7, 7, 7, 7, 7, 7, 7, 7, 7, 7, 7, 7, 7, 7, 7, 7, 7, 7, 7, 7, 7, 7, 7, 7, 7, 7, 7, 7, 7, 7, 7, 7, 8, 8, 8, 8, 8, 8, 8, 8, 8, 8, 8, 8, 8, 8, 8, 8, 8, 8, 8, 8, 8, 8, 8, 8, 8, 8, 8, 8, 8, 8, 8, 8, 8, 8, 8, 8, 8, 8, 8, 8, 8, 8, 8, 8, 8, 8, 8, 8, 8, 8, 8, 8, 8, 8, 8, 8, 8, 8, 8, 8, 8, 8, 8, 8, 8, 8, 8, 8, 8, 8, 8, 8, 8, 8, 8, 8, 8, 8, 8, 8, 8, 8, 8, 8, 8, 8, 8, 8, 8, 8, 8, 8, 8, 8, 8, 8, 8, 8, 8, 8, 8, 8, 8, 8, 8, 8, 8, 8, 8, 8, 8, 8, 8, 8, 8, 8, 8, 8, 8, 8, 8, 8, 8, 8, 8, 8, 8, 8]⟩
theorem lenTab_all : ∀ n : Fin 256, ∃ h : n.1 < lenTab.size, (lenTab[n.1]'h).toNat = bl (n.1 : Int) := by decide +kernel
def cmpI (a b : Int) : Int := if a < b then -1 else if b < a then 1 else 0
theorem cmp_lt {a b : Int} (h : a < b) : cmpI a b = -1 := by unfold cmpI; rw[if_pos h]
theorem cmp_gt {a b : Int} (h : b < a) : cmpI a b = 1 := by unfold cmpI; rw[if_neg (by omega),if_pos h]
theorem cmp_eq {a b : Int} (h : a = b) : cmpI a b = 0 := by unfold cmpI; rw[if_neg (by omega),if_neg (by omega)]
theorem lt_top {a b : List Int} (ha : Lim a) (hb : Lim b) {k : Nat} (h1 : k < a.length) (h2 : k < b.length) (hd : a.drop (k + 1) = b.drop (k + 1)) (hlt : at' a k < at' b k) : val a < val b := by
 have e1 := val_split a (k := k + 1) (by omega)
 have e2 := val_split b (k := k + 1) (by omega)
 rw[val_take_succ h1] at e1
 rw[val_take_succ h2] at e2
 rw[hd] at e1
 have b1 := val_bd (ha.take k)
 have b2 := val_bd (hb.take k)
 rw[List.length_take,Nat.min_eq_left (by omega)] at b1 b2
 have := Int.mul_le_mul_of_nonneg_right (show at' a k + 1 ≤ at' b k by omega) (show (0 : Int) ≤ pw k by have := pw_pos k; omega)
 grind
theorem drop_same {a b : List Int} {k : Nat} (h1 : k < a.length) (h2 : k < b.length) (hd : a.drop (k + 1) = b.drop (k + 1)) (he : at' a k = at' b k) : a.drop k = b.drop k := by
 rw[List.drop_eq_getElem_cons h1,List.drop_eq_getElem_cons h2,hd,← at_get h1,← at_get h2,he]
end Go.Proofs.YtcgplgpdcfocpaaGreatDoor.Big
end
section
namespace Go.Proofs.YtcgplgpdcfocpaaGreatDoor.Spec
open Go Go.RowKit Go.Proofs Go.Proofs.YtcgplgpdcfocpaaGreatDoor.Eng Go.Proofs.YtcgplgpdcfocpaaGreatDoor.Code Go.Proofs.YtcgplgpdcfocpaaGreatDoor.Big
attribute [local irreducible] callK S.W opsW scrW
theorem add32_spec (x y c : Int) (hx : 0 ≤ x ∧ x < 4294967296) (hy : 0 ≤ y ∧ y < 4294967296) (hc : 0 ≤ c ∧ c < 4294967296) (w : World) (K : Value → World → Prop)
  (hK : K (.tuple #[.int .u32 ((x + y + c) % 4294967296), .int .u32 ((x + y + c) / 4294967296)]) w) : callK Tryz.prog 122 [.int .u32 x, .int .u32 y, .int .u32 c] w K := by
 refine call_of Tryz.func122 Code.h122 (by simp[Code.c122]) ?_
 simp(disch:=omega)only[Zu,Zv,Zx,Zz,EZ,↓EP,↓reduceIte,Za,Zb,Zc,Zd,Ze,Zf,Zg,Zj,Zk,Zl,Zm,Zn,Zp,Zq,reduceCtorEq,Code.c122,wu32_mod]
 exact hK
theorem len32_spec (x : Int) (hx : 0 ≤ x ∧ x < 4294967296) (w : World) (K : Value → World → Prop)
  (hK : K (.int .i64 (bl x : Int)) w) : callK Tryz.prog 65 [.int .u32 x] w K := by
 refine call_of Tryz.func65 Code.h65 (by simp[Code.c65]) ?_
 have low : ∀ (y n : Int), 0 ≤ y → y < 256 → 0 ≤ n → n < 100 → (bl x : Int) = n + bl y → ∃ h : y.toNat < lenTab.size, K (.int .i64 (IntKind.i64.wrap (n + IntKind.i64.wrap ((lenTab[y.toNat]'h).toNat : Int)))) w := by
  intro y n h0 h1 h2 h3 e
  have hb : bl y ≤ 8 := (bl_le h0).2 (by omega)
  obtain ⟨h, e2⟩ := lenTab_all ⟨y.toNat, by omega⟩
  simp only at e2
  refine ⟨h, ?_⟩
  rw[e2, show ((y.toNat : Nat) : Int) = y by omega, w64 (n := (bl y : Int)) (by omega) (by omega), w64 (by omega) (by omega), ← e]
  exact hK
 have f256 : ∀ y : Int, 256 ≤ y → (bl y : Int) = 8 + bl (y / 256) := fun y h => by have := bl_div (v := y) (k := 8) (by omega); simp at this; omega
 have f65536 : 65536 ≤ x → (bl x : Int) = 16 + bl (x / 65536) := fun h => by have := bl_div (v := x) (k := 16) (by omega); simp at this; omega
 by_cases h1 : 65536 ≤ x
 ·have := f65536 h1
  by_cases h2 : 256 ≤ x / 65536
  ·have := f256 _ h2
   simp(disch:=omega)only[Zu,Zv,Zx,Zz,EZ,↓EP,↓reduceIte,Za,Zb,Zc,Zd,Ze,Zf,Zg,Zj,Zk,Zl,Zm,Zn,Zp,Zq,reduceCtorEq,Code.c65,W_join,ixsK]
   exact low _ _ (by omega) (by omega) (by omega) (by omega) (by omega)
  ·simp(disch:=omega)only[Zu,Zv,Zx,Zz,EZ,↓EP,↓reduceIte,Za,Zb,Zc,Zd,Ze,Zf,Zg,Zj,Zk,Zl,Zm,Zn,Zp,Zq,reduceCtorEq,Code.c65,W_join,ixsK]
   exact low _ _ (by omega) (by omega) (by omega) (by omega) (by omega)
 ·by_cases h2 : 256 ≤ x
  ·have := f256 _ h2
   simp(disch:=omega)only[Zu,Zv,Zx,Zz,EZ,↓EP,↓reduceIte,Za,Zb,Zc,Zd,Ze,Zf,Zg,Zj,Zk,Zl,Zm,Zn,Zp,Zq,reduceCtorEq,Code.c65,W_join,ixsK]
   exact low _ _ (by omega) (by omega) (by omega) (by omega) (by omega)
  ·simp(disch:=omega)only[Zu,Zv,Zx,Zz,EZ,↓EP,↓reduceIte,Za,Zb,Zc,Zd,Ze,Zf,Zg,Zj,Zk,Zl,Zm,Zn,Zp,Zq,reduceCtorEq,Code.c65,W_join,ixsK]
   exact low _ _ (by omega) (by omega) (by omega) (by omega) (by omega)
theorem cut_spec {w : World} {A : Option Addr} {n c : Nat} {l : List Int} (hn : l.length = n) (hl : Rd w A (nums .u32 l)) (hL : Lim l) (hc : n ≤ c) (h63 : n ≤ 4611686018427387904) (K : Value → World → Prop)
  (hK : ∀ m, m ≤ n → l.take m = limbs (val l) → m = (limbs (val l)).length → K (.slice A m c) w) : callK Tryz.prog 64 [.slice A n c] w K := by
 refine call_of Tryz.func64 Code.h64 (by simp[Code.c64]) ?_
 subst hn
 simp(disch:=omega)only[EZ,↓EP,↓reduceIte,Za,Zb,Zc,Zd,Ze,Zf,Zg,Zj,Zk,Zl,Zm,Zn,Zp,Zq,reduceCtorEq,Code.c64]
 refine loop_inv (fun t ρ w' => w' = w ∧ ρ 3 = .int .i64 t ∧ t ≤ l.length ∧ ∀ j : Nat, t ≤ j → j < l.length → at' l j = 0) l.length ⟨rfl, by simp(disch:=omega)only[EZ,↓EP,↓reduceIte,Za,Zb,Zc,Zd,Ze,Zf,Zg,Zj,Zk,Zl,Zm,Zn,Zp,Zq,reduceCtorEq], Nat.le_refl _, fun j h1 h2 => by omega⟩ ?_
 rintro t ρ w' hf ⟨rfl, h3, ht, hz⟩ N hN
 have r0 : ρ 0 = .slice A l.length c := by rw[hf 0 rfl]; simp only[↓EP,EQ,EM,↓reduceIte,Za,Zb,Zc,Zd,Ze,Zf,Zg,Zj,Zk,Zl,Zm,Zn,Zp,Zq,reduceCtorEq]
 clear hf
 have fin : (t = 0 ∨ at' l ((t - 1 : Nat) : Int) ≠ 0) → K (.slice A t c) w' := fun h => by
  have e := cut_can hL ht hz h
  exact hK t ht e (by rw[← e,List.length_take]; omega)
 cases t with
 | zero =>
  simp(disch:=omega)only[EZ,↓EP,↓reduceIte,Za,Zb,Zc,Zd,Ze,Zf,Zg,Zj,Zk,Zl,Zm,Zn,Zp,Zq,reduceCtorEq,h3,r0,Int.natCast_zero]
  exact fin (.inl rfl)
 | succ k =>
  obtain ⟨p, rfl, _, hp⟩ := hl.get (by rw[nums_length]; omega)
  have cp := hp.numN (j := k) (by omega)
  have e1 : ((k + 1 : Nat) : Int) - 1 = k := by omega
  by_cases he : at' l k = 0
  ·simp(disch:=omega)only[EZ,↓EP,↓reduceIte,Za,Zb,Zc,Zd,Ze,Zf,Zg,Zj,Zk,Zl,Zm,Zn,Zp,Zq,reduceCtorEq,h3,r0,e1,cp,he]
   exact hN k _ _ (by omega) ⟨rfl, by simp(disch:=omega)only[EZ,↓EP,↓reduceIte,Za,Zb,Zc,Zd,Ze,Zf,Zg,Zj,Zk,Zl,Zm,Zn,Zp,Zq,reduceCtorEq], by omega, fun j h1 h2 => by
    by_cases hj : j = k
    ·subst hj; exact he
    ·exact hz j (by omega) h2⟩
  ·have hf : (at' l k = 0) = False := eq_false he
   simp(disch:=omega)only[EZ,↓EP,↓reduceIte,Za,Zb,Zc,Zd,Ze,Zf,Zg,Zj,Zk,Zl,Zm,Zn,Zp,Zq,reduceCtorEq,h3,r0,e1,cp,hf]
   exact fin (.inr (by rw[show k + 1 - 1 = k by omega]; exact he))
theorem trim_spec {w : World} {A : Option Addr} {n c : Nat} {l : List Int} (hn : l.length = n) (hl : Rd w A (nums .u32 l)) (hL : Lim l) (hc : n ≤ c) (h47 : n ≤ 35184372088832) (K : Value → World → Prop)
  (hK : ∀ v w', Gw .u32 w w' v (limbs (val l)) → K v w') : callK Tryz.prog 83 [.slice A n c] w K := by
 refine call_of Tryz.func83 Code.h83 (by simp[Code.c83]) ?_
 simp(disch:=omega)only[EZ,↓EP,↓reduceIte,Za,Zb,Zc,Zd,Ze,Zf,Zg,Zj,Zk,Zl,Zm,Zn,Zp,Zq,reduceCtorEq,Code.c83]
 refine cut_spec hn hl hL hc (by omega) _ fun m hm he hlen => ?_
 simp(disch:=omega)only[EZ,↓EP,↓reduceIte,Za,Zb,Zc,Zd,Ze,Zf,Zg,Zj,Zk,Zl,Zm,Zn,Zp,Zq,reduceCtorEq]
 have hr := hl.take m
 rw[he] at hr
 refine app_num (Sl.nil _ _) hlen.symm hr (by rw[List.length_nil]; omega) (by omega) fun v w' a => ?_
 have g := (Gw.nil .u32 w).apd a
 rw[List.nil_append] at g
 simp(disch:=omega)only[EZ,↓EP,↓reduceIte,Za,Zb,Zc,Zd,Ze,Zf,Zg,Zj,Zk,Zl,Zm,Zn,Zp,Zq,reduceCtorEq]
 exact hK v w' g
end Go.Proofs.YtcgplgpdcfocpaaGreatDoor.Spec
end
section
namespace Go.Proofs.YtcgplgpdcfocpaaGreatDoor.Eng
open Go Go.RowKit
theorem nat_or_add (a b n : Nat) (h : b < 2 ^ n) : (a * 2 ^ n) ||| b = a * 2 ^ n + b := by
 have := Nat.shiftLeft_add_eq_or_of_lt h a
 rw[Nat.shiftLeft_eq] at this
 exact this.symm
theorem or_shl {a b : Int} (ha : 0 ≤ a) (ha' : a < 4294967296) (hb : 0 ≤ b) (hb' : b < 4294967296) : bits .or .u64 (a * 4294967296) b = a * 4294967296 + b := by
 rw[u64_or _ _ (by omega) (by omega) (by omega) (by omega)]
 have e : (a * 4294967296).toNat = a.toNat * 2 ^ 32 := by omega
 rw[e,nat_or_add _ _ _ (by omega)]
 omega
theorem or32_add {c z : Int} {n : Nat} (hc : 0 ≤ c) (hc' : c < 2 ^ n) (hz : 0 ≤ z) (hl : z * 2 ^ n + c < 4294967296) : bits .or .u32 c (z * 2 ^ n) = z * 2 ^ n + c := by
 have hz2 : 0 ≤ z * 2 ^ n := Int.mul_nonneg hz (by have : (0 : Int) < 2 ^ n := Int.pow_pos (by decide); omega)
 rw[u32_or _ _ (by omega) (by omega) (by omega) (by omega),Nat.or_comm]
 obtain ⟨z, rfl⟩ := Int.eq_ofNat_of_zero_le hz
 obtain ⟨c, rfl⟩ := Int.eq_ofNat_of_zero_le hc
 have e : ((z : Int) * 2 ^ n) = ((z * 2 ^ n : Nat) : Int) := by push_cast; rfl
 have hc2 : c < 2 ^ n := by
  have h2 : ((2 ^ n : Nat) : Int) = (2 : Int) ^ n := by push_cast; rfl
  omega
 rw[e,Int.toNat_natCast,Int.toNat_natCast,nat_or_add _ _ _ hc2]
 push_cast; rfl
theorem not32 {n : Int} (h0 : 0 ≤ n) (h1 : n < 4294967296) : bits .xor .u32 (if IntKind.u32.signed = true then -1 else IntKind.u32.max) n = 4294967295 - n := by
 show bits .xor .u32 4294967295 n = _
 rw[u32_xor _ _ (by omega) (by omega) (by omega) (by omega)]
 have e : (4294967295 : Int).toNat ^^^ n.toNat = 4294967295 - n.toNat := by
  apply Nat.eq_of_testBit_eq
  intro i
  have h2 := Nat.testBit_two_pow_sub_succ (x := n.toNat) (n := 32) (by omega) i
  rw[show (2 ^ 32 - (n.toNat + 1)) = 4294967295 - n.toNat by omega] at h2
  rw[h2, Nat.testBit_xor, show (4294967295 : Int).toNat = 2 ^ 32 - 1 by rfl, Nat.testBit_two_pow_sub_one]
  by_cases hi : i < 32
  ·simp[hi]
  ·have : n.toNat.testBit i = false := Nat.testBit_lt_two_pow (Nat.lt_of_lt_of_le (show n.toNat < 2 ^ 32 by omega) (Nat.pow_le_pow_right (by omega) (by omega)))
   simp[hi,this]
 rw[e]
 omega
theorem top_and (a b : Nat) : (a &&& b) / 2147483648 = (a / 2147483648) &&& (b / 2147483648) := by
 have := Nat.shiftRight_and_distrib (a := a) (b := b) (i := 31)
 simpa [Nat.shiftRight_eq_div_pow] using this
theorem top_or (a b : Nat) : (a ||| b) / 2147483648 = (a / 2147483648) ||| (b / 2147483648) := by
 have := Nat.shiftRight_or_distrib (a := a) (b := b) (i := 31)
 simpa [Nat.shiftRight_eq_div_pow] using this
theorem top_xor (a b : Nat) : (a ^^^ b) / 2147483648 = (a / 2147483648) ^^^ (b / 2147483648) := by
 have := Nat.shiftRight_xor_distrib (a := a) (b := b) (i := 31)
 simpa [Nat.shiftRight_eq_div_pow] using this
theorem xor_lt {a b : Nat} (ha : a < 4294967296) (hb : b < 4294967296) : a ^^^ b < 4294967296 := Nat.xor_lt_two_pow (n := 32) ha hb
theorem and_lt {a b : Nat} (ha : a < 4294967296) (hb : b < 4294967296) : a &&& b < 4294967296 := Nat.and_lt_two_pow (n := 32) a hb
theorem borrow_nat (x y b d : Nat) (hx : x < 4294967296) (hy : y < 4294967296) (hb : b ≤ 1) (hd : d < 4294967296) (h : (d + y + b) % 4294967296 = x) :
  (((4294967295 - x) &&& y) ||| ((4294967295 - (x ^^^ y)) &&& d)) / 2147483648 = if x < y + b then 1 else 0 := by
 have hxy := xor_lt hx hy
 rw[top_or,top_and,top_and]
 have e1 : (4294967295 - x) / 2147483648 = 1 - x / 2147483648 := by omega
 have e2 : (4294967295 - (x ^^^ y)) / 2147483648 = 1 - (x ^^^ y) / 2147483648 := by omega
 rw[e1,e2,top_xor]
 have cx : x / 2147483648 = 0 ∨ x / 2147483648 = 1 := by omega
 have cy : y / 2147483648 = 0 ∨ y / 2147483648 = 1 := by omega
 have cd : d / 2147483648 = 0 ∨ d / 2147483648 = 1 := by omega
 rcases cx with cx | cx <;> rcases cy with cy | cy <;> rcases cd with cd | cd <;> rw[cx,cy,cd] <;> simp <;> omega
theorem borrow32 {x y b : Int} (hx : 0 ≤ x ∧ x < 4294967296) (hy : 0 ≤ y ∧ y < 4294967296) (hb : 0 ≤ b ∧ b ≤ 1) :
  bits .or .u32 (bits .and .u32 (4294967295 - x) y) (bits .and .u32 (4294967295 - bits .xor .u32 x y) ((x - y - b) % 4294967296)) / 2147483648 = if x < y + b then 1 else 0 := by
 have hxy := xor_lt (a := x.toNat) (b := y.toNat) (by omega) (by omega)
 have h1 := and_lt (a := (4294967295 - x).toNat) (b := y.toNat) (by omega) (by omega)
 rw[u32_xor x y (by omega) (by omega) (by omega) (by omega)]
 rw[u32_and (4294967295 - x) y (by omega) (by omega) (by omega) (by omega)]
 have h2 := and_lt (a := (4294967295 - ((x.toNat ^^^ y.toNat : Nat) : Int)).toNat) (b := ((x - y - b) % 4294967296).toNat) (by omega) (by omega)
 rw[u32_and (4294967295 - ((x.toNat ^^^ y.toNat : Nat) : Int)) ((x - y - b) % 4294967296) (by omega) (by omega) (by omega) (by omega)]
 rw[u32_or _ _ (by omega) (by omega) (by omega) (by omega)]
 have := borrow_nat x.toNat y.toNat b.toNat ((x - y - b) % 4294967296).toNat (by omega) (by omega) (by omega) (by omega) (by omega)
 rw[Int.toNat_natCast,Int.toNat_natCast]
 rw[show (4294967295 - x).toNat = 4294967295 - x.toNat by omega, show (4294967295 - ((x.toNat ^^^ y.toNat : Nat) : Int)).toNat = 4294967295 - (x.toNat ^^^ y.toNat) by omega]
 have h3 : (((4294967295 - x.toNat &&& y.toNat ||| 4294967295 - (x.toNat ^^^ y.toNat) &&& ((x - y - b) % 4294967296).toNat : Nat) : Int) / 2147483648) = ((if x.toNat < y.toNat + b.toNat then 1 else 0 : Nat) : Int) := by
  rw[← this]; rfl
 rw[h3]
 split <;> split <;> first | rfl | omega
end Go.Proofs.YtcgplgpdcfocpaaGreatDoor.Eng
end
section
namespace Go.Proofs.YtcgplgpdcfocpaaGreatDoor.Spec
open Go Go.RowKit Go.Proofs Go.Proofs.YtcgplgpdcfocpaaGreatDoor.Eng Go.Proofs.YtcgplgpdcfocpaaGreatDoor.Code Go.Proofs.YtcgplgpdcfocpaaGreatDoor.Big
attribute [local irreducible] callK S.W opsW scrW
theorem own_cut {k : IntKind} {w0 w : World} {b m n : Nat} {l l' : List Int} (hB : Blk w b (nums k l)) (hb : w0.heap.size ≤ b) (f : Fr w0 w nob) (hn : l.length = n) (hm : m ≤ n) (he : l.take m = l') : Gw k w0 w (.slice (some ⟨b, 0, none⟩) m n) l' := by
 refine ⟨.inr ⟨b, l.drop m, ?_, ?_⟩, fun x e => by cases e; exact hb, f⟩
 ·rw[← he,List.length_take,List.length_drop,Nat.min_eq_left (by omega)]
  congr 1; omega
 ·rw[← he,List.take_append_drop]; exact hB
theorem blk_rd {k : IntKind} {w : World} {b : Nat} {l : List Int} (hB : Blk w b (nums k l)) : Rd w (some ⟨b, 0, none⟩) (nums k l) := hB.rd 0 (n := l.length) (by rw[List.drop_zero,nums_take]; simp)
end Go.Proofs.YtcgplgpdcfocpaaGreatDoor.Spec
end
section
namespace Go.Proofs.YtcgplgpdcfocpaaGreatDoor.Spec
open Go Go.RowKit Go.Proofs Go.Proofs.YtcgplgpdcfocpaaGreatDoor.Eng Go.Proofs.YtcgplgpdcfocpaaGreatDoor.Code Go.Proofs.YtcgplgpdcfocpaaGreatDoor.Big
attribute [local irreducible] callK S.W opsW scrW
theorem lz32_spec (x : Int) (hx : 0 ≤ x ∧ x < 4294967296) (w : World) (K : Value → World → Prop) (hK : K (.int .i64 (32 - (bl x : Int))) w) : callK Tryz.prog 106 [.int .u32 x] w K := by
 refine call_of Tryz.func106 Code.h106 (by simp[Code.c106]) ?_
 have hb : bl x ≤ 32 := (bl_le hx.1).2 (by omega)
 simp(disch:=omega)only[EZ,↓EP,↓reduceIte,Za,Zb,Zc,Zd,Ze,Zf,Zg,Zj,Zk,Zl,Zm,Zn,Zp,Zq,reduceCtorEq,Code.c106]
 refine len32_spec x hx _ _ ?_
 simp(disch:=omega)only[EZ,↓EP,↓reduceIte,Za,Zb,Zc,Zd,Ze,Zf,Zg,Zj,Zk,Zl,Zm,Zn,Zp,Zq,reduceCtorEq]
 exact hK
theorem can_top {v : Int} (hv : 0 ≤ v) {k : Nat} (hk : (limbs v).length = k + 1) : at' (limbs v) k ≠ 0 ∧ bl v = 32 * k + bl (at' (limbs v) k) := by
 have hc := limbs_can v
 have h0 : at' (limbs v) k ≠ 0 := by
  rcases hc.2 with e | e
  ·rw[e] at hk; simp at hk
  ·rw[hk] at e; exact e
 refine ⟨h0, ?_⟩
 have := bl_val hc.1 hk h0
 rwa [limbs_val hv] at this
theorem bits_spec {w : World} {A : Option Addr} {n c : Nat} {l : List Int} (hn : l.length = n) (hl : Rd w A (nums .u32 l)) (hL : Lim l) (hc : n ≤ c) (hn' : n ≤ 1099511627776) (K : Value → World → Prop)
  (hK : K (.int .i64 (bl (val l) : Int)) w) : callK Tryz.prog 38 [.slice A n c] w K := by
 refine call_of Tryz.func38 Code.h38 (by simp[Code.c38]) ?_
 simp(disch:=omega)only[EZ,↓EP,↓reduceIte,Za,Zb,Zc,Zd,Ze,Zf,Zg,Zj,Zk,Zl,Zm,Zn,Zp,Zq,reduceCtorEq,Code.c38]
 have hv := (val_bd hL).1
 refine cut_spec hn hl hL hc (by omega) _ fun m hm he hlen => ?_
 cases m with
 | zero =>
  simp(disch:=omega)only[EZ,↓EP,↓reduceIte,Za,Zb,Zc,Zd,Ze,Zf,Zg,Zj,Zk,Zl,Zm,Zn,Zp,Zq,reduceCtorEq,Int.natCast_zero]
  have e : val l = 0 := limbs_nil hv (List.length_eq_zero_iff.1 hlen.symm)
  rw[e,bl_zero] at hK
  exact hK
 | succ k =>
  obtain ⟨h0, hb⟩ := can_top hv hlen.symm
  have hr := hl.take (k + 1)
  rw[he] at hr
  obtain ⟨p, rfl, _, hp⟩ := hr.get (by rw[nums_length]; omega)
  have cp := hp.numN (j := k) (by omega)
  have e1 : ((k + 1 : Nat) : Int) - 1 = k := by omega
  have bt := (limbs_lim (val l)).at k
  have hb32 : bl (at' (limbs (val l)) k) ≤ 32 := (bl_le bt.1).2 (by omega)
  simp(disch:=omega)only[EZ,↓EP,↓reduceIte,Za,Zb,Zc,Zd,Ze,Zf,Zg,Zj,Zk,Zl,Zm,Zn,Zp,Zq,reduceCtorEq,e1,cp]
  refine len32_spec _ bt _ _ ?_
  have e2 : (32 : Int) * k + bl (at' (limbs (val l)) k) = (bl (val l) : Int) := by rw[hb]; push_cast; rfl
  simp(disch:=omega)only[EZ,↓EP,↓reduceIte,Za,Zb,Zc,Zd,Ze,Zf,Zg,Zj,Zk,Zl,Zm,Zn,Zp,Zq,reduceCtorEq,e2]
  exact hK
set_option maxHeartbeats 1000000 in
theorem cmp_spec {w : World} {A B : Option Addr} {n m c d : Nat} {l r : List Int} (hn : l.length = n) (hm : r.length = m) (hl : Rd w A (nums .u32 l)) (hr : Rd w B (nums .u32 r)) (hL : Lim l) (hR : Lim r) (hc : n ≤ c) (hd : m ≤ d) (hn' : n ≤ 1099511627776) (hm' : m ≤ 1099511627776) (K : Value → World → Prop)
  (hK : ∀ w', Fr w w' nob → K (.int .i64 (cmpI (val l) (val r))) w') : callK Tryz.prog 47 [.slice A n c, .slice B m d] w K := by
 refine call_of Tryz.func47 Code.h47 (by simp[Code.c47]) ?_
 simp(disch:=omega)only[EZ,↓EP,↓reduceIte,Za,Zb,Zc,Zd,Ze,Zf,Zg,Zj,Zk,Zl,Zm,Zn,Zp,Zq,reduceCtorEq,Code.c47]
 have hvl := (val_bd hL).1
 have hvr := (val_bd hR).1
 have LL := limbs_lim (val l)
 have LR := limbs_lim (val r)
 refine cut_spec hn hl hL hc (by omega) _ fun x hx he hlen => ?_
 simp(disch:=omega)only[EZ,↓EP,↓reduceIte,Za,Zb,Zc,Zd,Ze,Zf,Zg,Zj,Zk,Zl,Zm,Zn,Zp,Zq,reduceCtorEq]
 refine cut_spec hm hr hR hd (by omega) _ fun y hy he2 hlen2 => ?_
 have rl := hl.take x
 have rr := hr.take y
 rw[he] at rl
 rw[he2] at rr
 have vl := limbs_val hvl
 have vr := limbs_val hvr
 have lt1 : x < y → val l < val r := fun h => by
  have := (limbs_can (val l)).lt_of_len (limbs_can (val r)) (by omega)
  omega
 have lt2 : y < x → val r < val l := fun h => by
  have := (limbs_can (val r)).lt_of_len (limbs_can (val l)) (by omega)
  omega
 by_cases h1 : (x : Int) < (y : Int)
 ·simp(disch:=omega)only[EZ,↓EP,↓reduceIte,Za,Zb,Zc,Zd,Ze,Zf,Zg,Zj,Zk,Zl,Zm,Zn,Zp,Zq,reduceCtorEq]
  have := hK w (Fr.refl _ _)
  rwa [cmp_lt (lt1 (by omega))] at this
 by_cases h2 : (y : Int) < (x : Int)
 ·simp(disch:=omega)only[EZ,↓EP,↓reduceIte,Za,Zb,Zc,Zd,Ze,Zf,Zg,Zj,Zk,Zl,Zm,Zn,Zp,Zq,reduceCtorEq]
  have := hK w (Fr.refl _ _)
  rwa [cmp_gt (lt2 (by omega))] at this
 have hxy : x = y := by omega
 subst hxy
 simp(disch:=omega)only[EZ,↓EP,↓reduceIte,Za,Zb,Zc,Zd,Ze,Zf,Zg,Zj,Zk,Zl,Zm,Zn,Zp,Zq,reduceCtorEq]
 generalize limbs (val l) = a at *
 generalize limbs (val r) = b at *
 refine loop_inv (fun t ρ w' => ∃ j, w' = w.drewN j ∧ ρ 25 = .int .i64 ((x : Int) - t) ∧ t ≤ x ∧ a.drop t = b.drop t) x ⟨0, rfl, by simp(disch:=omega)only[EZ,↓EP,↓reduceIte,Za,Zb,Zc,Zd,Ze,Zf,Zg,Zj,Zk,Zl,Zm,Zn,Zp,Zq,reduceCtorEq]; rw[Int.sub_self], Nat.le_refl _, by rw[List.drop_of_length_le (by omega),List.drop_of_length_le (by omega)]⟩ ?_
 rintro t ρ w' hf ⟨j, rfl, h25, ht, hd⟩ N hN
 have q0 : ρ 0 = .slice A x c := by rw[hf 0 rfl]; simp(disch:=omega)only[EZ,↓EP,↓reduceIte,Za,Zb,Zc,Zd,Ze,Zf,Zg,Zj,Zk,Zl,Zm,Zn,Zp,Zq,reduceCtorEq]
 have q1 : ρ 1 = .slice B x d := by rw[hf 1 rfl]; simp(disch:=omega)only[EZ,↓EP,↓reduceIte,Za,Zb,Zc,Zd,Ze,Zf,Zg,Zj,Zk,Zl,Zm,Zn,Zp,Zq,reduceCtorEq]
 have q24 : ρ 24 = .int .i64 x := by rw[hf 24 rfl]; simp(disch:=omega)only[EZ,↓EP,↓reduceIte,Za,Zb,Zc,Zd,Ze,Zf,Zg,Zj,Zk,Zl,Zm,Zn,Zp,Zq,reduceCtorEq]
 clear hf
 cases t with
 | zero =>
  rw[List.drop_zero,List.drop_zero] at hd
  simp(disch:=omega)only[EZ,↓EP,↓reduceIte,Za,Zb,Zc,Zd,Ze,Zf,Zg,Zj,Zk,Zl,Zm,Zn,Zp,Zq,reduceCtorEq,h25,q24,Int.natCast_zero,Int.sub_zero]
  have := hK (w.drewN j) (Fr.drewN w _ _)
  rwa [cmp_eq (by rw[← vl,← vr,hd])] at this
 | succ k =>
  obtain ⟨p, rfl, _, hp⟩ := rl.get (by rw[nums_length]; omega)
  obtain ⟨q, rfl, _, hq⟩ := rr.get (by rw[nums_length]; omega)
  have cp := hp.numN (j := k) (by omega)
  have cq := hq.numN (j := k) (by omega)
  have e1 : (x : Int) - 1 - ((x : Int) - ((k + 1 : Nat) : Int)) = k := by omega
  by_cases g1 : at' a k < at' b k
  ·simp(disch:=omega)only[EZ,↓EP,↓reduceIte,Za,Zb,Zc,Zd,Ze,Zf,Zg,Zj,Zk,Zl,Zm,Zn,Zp,Zq,reduceCtorEq,h25,q0,q1,q24,e1,cp,cq]
   intro m1
   have := hK (w.drewN (j + m1)) (Fr.drewN w _ _)
   rwa [cmp_lt (by rw[← vl,← vr]; exact lt_top LL LR (by omega) (by omega) hd g1)] at this
  by_cases g2 : at' b k < at' a k
  ·simp(disch:=omega)only[EZ,↓EP,↓reduceIte,Za,Zb,Zc,Zd,Ze,Zf,Zg,Zj,Zk,Zl,Zm,Zn,Zp,Zq,reduceCtorEq,h25,q0,q1,q24,e1,cp,cq]
   intro m1 m2
   have := hK (w.drewN (j + (m1 + m2))) (Fr.drewN w _ _)
   rw[cmp_gt (by rw [← vl,← vr]; exact lt_top LR LL (by omega) (by omega) hd.symm g2)] at this
   first | exact this | (rw[Nat.add_assoc]; exact this)
  ·simp(disch:=omega)only[EZ,↓EP,↓reduceIte,Za,Zb,Zc,Zd,Ze,Zf,Zg,Zj,Zk,Zl,Zm,Zn,Zp,Zq,reduceCtorEq,h25,q0,q1,q24,e1,cp,cq]
   intro m1 m2
   have hds := drop_same (by omega) (by omega) hd (show at' a k = at' b k by omega)
   exact hN k _ _ (by omega) ⟨_, rfl, by simp(disch:=omega)only[EZ,↓EP,↓reduceIte,Za,Zb,Zc,Zd,Ze,Zf,Zg,Zj,Zk,Zl,Zm,Zn,Zp,Zq,reduceCtorEq,h25]; congr 1; omega, by omega, hds⟩
structure Lens (w : World) (A : Option Addr) (hs : List Value) (ns : List Nat) : Prop where
 rd : Rd w A hs
 len : hs.length = ns.length
 each : ∀ (i n : Nat), ns[i]? = some n → ∃ B c, hs[i]? = some (Value.slice B n c)
theorem long_spec {w : World} {A : Option Addr} {c : Nat} {hs : List Value} {ns : List Nat} {most : Int} (h : Lens w A hs ns) (hm : -9223372036854775808 ≤ most ∧ most ≤ 9223372036854775807) (h63 : ns.length ≤ 4611686018427387904) (K : Value → World → Prop)
  (hK : K (.bool (ns.any fun n => decide (most < (n : Int)))) w) : callK Tryz.prog 80 [.int .i64 most, .slice A ns.length c] w K := by
 refine call_of Tryz.func80 Code.h80 (by simp[Code.c80]) ?_
 simp(disch:=omega)only[EZ,↓EP,↓reduceIte,Za,Zb,Zc,Zd,Ze,Zf,Zg,Zj,Zk,Zl,Zm,Zn,Zp,Zq,reduceCtorEq,Code.c80]
 refine loop_inv (fun t ρ w' => w' = w ∧ ∃ k : Nat, ρ 9 = .int .i64 k ∧ k ≤ ns.length ∧ t = ns.length - k ∧ ∀ i n, i < k → ns[i]? = some n → ¬ most < (n : Int)) _ ⟨rfl, 0, by simp(disch:=omega)only[EZ,↓EP,↓reduceIte,Za,Zb,Zc,Zd,Ze,Zf,Zg,Zj,Zk,Zl,Zm,Zn,Zp,Zq,reduceCtorEq], by omega, rfl, fun i n h => by omega⟩ ?_
 rintro t ρ w' hf ⟨rfl, k, h9, hk, rfl, hall⟩ N hN
 have q0 : ρ 0 = .int .i64 most := by rw[hf 0 rfl]; simp(disch:=omega)only[EZ,↓EP,↓reduceIte,Za,Zb,Zc,Zd,Ze,Zf,Zg,Zj,Zk,Zl,Zm,Zn,Zp,Zq,reduceCtorEq]
 have q7 : ρ 7 = .slice A ns.length c := by rw[hf 7 rfl]; simp(disch:=omega)only[EZ,↓EP,↓reduceIte,Za,Zb,Zc,Zd,Ze,Zf,Zg,Zj,Zk,Zl,Zm,Zn,Zp,Zq,reduceCtorEq]
 have q8 : ρ 8 = .int .i64 ns.length := by rw[hf 8 rfl]; simp(disch:=omega)only[EZ,↓EP,↓reduceIte,Za,Zb,Zc,Zd,Ze,Zf,Zg,Zj,Zk,Zl,Zm,Zn,Zp,Zq,reduceCtorEq]
 clear hf
 by_cases hkl : (k : Int) < (ns.length : Int)
 ·obtain ⟨p, rfl, _, hp⟩ := h.rd.get (by rw[h.len]; omega)
  have hn : ns[k]? = some ns[k] := List.getElem?_eq_getElem (by omega)
  obtain ⟨B, d, hv⟩ := h.each k _ hn
  have cp := hp k _ hv
  by_cases hlt : most < (ns[k] : Int)
  ·simp(disch:=omega)only[EZ,↓EP,↓reduceIte,Za,Zb,Zc,Zd,Ze,Zf,Zg,Zj,Zk,Zl,Zm,Zn,Zp,Zq,reduceCtorEq,h9,q0,q7,q8,cp]
   have e : (ns.any fun n => decide (most < (n : Int))) = true := List.any_eq_true.2 ⟨ns[k], List.getElem_mem _, by simpa using hlt⟩
   rwa [e] at hK
  ·simp(disch:=omega)only[EZ,↓EP,↓reduceIte,Za,Zb,Zc,Zd,Ze,Zf,Zg,Zj,Zk,Zl,Zm,Zn,Zp,Zq,reduceCtorEq,h9,q0,q7,q8,cp]
   refine hN (ns.length - (k + 1)) _ _ (by omega) ⟨rfl, k + 1, by simp(disch:=omega)only[EZ,↓EP,↓reduceIte,Za,Zb,Zc,Zd,Ze,Zf,Zg,Zj,Zk,Zl,Zm,Zn,Zp,Zq,reduceCtorEq,h9,Int.natCast_add], by omega, rfl, fun i n hi hin => ?_⟩
   by_cases hik : i = k
   ·subst hik
    rw[hn] at hin
    cases hin
    exact hlt
   ·exact hall i n (by omega) hin
 ·simp(disch:=omega)only[EZ,↓EP,↓reduceIte,Za,Zb,Zc,Zd,Ze,Zf,Zg,Zj,Zk,Zl,Zm,Zn,Zp,Zq,reduceCtorEq,h9,q0,q7,q8]
  have e : (ns.any fun n => decide (most < (n : Int))) = false := by
   rw[List.any_eq_false]
   intro n hn
   obtain ⟨i, hi, rfl⟩ := List.mem_iff_getElem.1 hn
   simpa using hall i _ (by omega) (List.getElem?_eq_getElem hi)
  rwa [e] at hK
theorem long1 {w : World} {A B : Option Addr} {n d c : Nat} {most : Int} (h : Rd w A [.slice B n d]) (hm : -9223372036854775808 ≤ most ∧ most ≤ 9223372036854775807) (K : Value → World → Prop)
  (hK : K (.bool (decide (most < (n : Int)))) w) : callK Tryz.prog 80 [.int .i64 most, .slice A 1 c] w K := by
 refine long_spec (ns := [n]) ⟨h, rfl, fun i x hx => ?_⟩ hm (by simp) K (by simpa using hK)
 match i, hx with
 | 0, hx => simp at hx; subst hx; exact ⟨B, d, rfl⟩
 | i + 1, hx => simp at hx
theorem long2 {w : World} {A B C : Option Addr} {n m d e c : Nat} {most : Int} (h : Rd w A [.slice B n d, .slice C m e]) (hm : -9223372036854775808 ≤ most ∧ most ≤ 9223372036854775807) (K : Value → World → Prop)
  (hK : K (.bool (decide (most < (n : Int)) || decide (most < (m : Int)))) w) : callK Tryz.prog 80 [.int .i64 most, .slice A 2 c] w K := by
 refine long_spec (ns := [n, m]) ⟨h, rfl, fun i x hx => ?_⟩ hm (by simp) K (by simpa using hK)
 match i, hx with
 | 0, hx => simp at hx; subst hx; exact ⟨B, d, rfl⟩
 | 1, hx => simp at hx; subst hx; exact ⟨C, e, rfl⟩
 | i + 2, hx => simp at hx
end Go.Proofs.YtcgplgpdcfocpaaGreatDoor.Spec
end
section
namespace Go.Proofs.YtcgplgpdcfocpaaGreatDoor.Spec
open Go Go.RowKit Go.Proofs Go.Proofs.YtcgplgpdcfocpaaGreatDoor.Eng Go.Proofs.YtcgplgpdcfocpaaGreatDoor.Code Go.Proofs.YtcgplgpdcfocpaaGreatDoor.Big
attribute [local irreducible] callK S.W opsW scrW
theorem sub32_spec (x y b : Int) (hx : 0 ≤ x ∧ x < 4294967296) (hy : 0 ≤ y ∧ y < 4294967296) (hb : 0 ≤ b ∧ b ≤ 1) (w : World) (K : Value → World → Prop)
  (hK : K (.tuple #[.int .u32 ((x - y - b) % 4294967296), .int .u32 (if x < y + b then 1 else 0)]) w) : callK Tryz.prog 121 [.int .u32 x, .int .u32 y, .int .u32 b] w K := by
 refine call_of Tryz.func121 Code.h121 (by simp[Code.c121]) ?_
 have h1 : 0 ≤ bits .xor .u32 x y ∧ bits .xor .u32 x y < 4294967296 := by
  have := xor_lt (a := x.toNat) (b := y.toNat) (by omega) (by omega)
  rw[u32_xor x y (by omega) (by omega) (by omega) (by omega)]; omega
 have e : ((x - y) % 4294967296 - b) % 4294967296 = (x - y - b) % 4294967296 := by omega
 have hbo := borrow32 hx hy hb
 simp(disch:=omega)only[EZ,↓EP,↓reduceIte,Za,Zb,Zc,Zd,Ze,Zf,Zg,Zj,Zk,Zl,Zm,Zn,Zp,Zq,reduceCtorEq,Code.c121,wu32_mod,not32,Zz,Nat.min_eq_left,e,hbo]
 exact hK
end Go.Proofs.YtcgplgpdcfocpaaGreatDoor.Spec
end
section
namespace Go.Proofs.YtcgplgpdcfocpaaGreatDoor.Spec
open Go Go.RowKit Go.Proofs Go.Proofs.YtcgplgpdcfocpaaGreatDoor.Eng Go.Proofs.YtcgplgpdcfocpaaGreatDoor.Code Go.Proofs.YtcgplgpdcfocpaaGreatDoor.Big
attribute [local irreducible] callK S.W opsW scrW
theorem mul_bd {a b : Int} (ha : 0 ≤ a ∧ a < 4294967296) (hb : 0 ≤ b ∧ b < 4294967296) : 0 ≤ a * b ∧ a * b ≤ 18446744065119617025 := by
 refine ⟨Int.mul_nonneg ha.1 hb.1, ?_⟩
 have := Int.mul_le_mul (show a ≤ 4294967295 by omega) (show b ≤ 4294967295 by omega) hb.1 (by omega)
 omega
theorem val_step {o : List Int} {k : Nat} {x y : Int} (h : k < o.length) : val ((o.set k x).take (k + 1)) + y * pw (k + 1) = val (o.take k) + (x + 4294967296 * y) * pw k := by
 rw[val_take_set h,pw_succ]; grind
set_option maxHeartbeats 1000000 in
theorem product_spec {w : World} {A B : Option Addr} {n m c d : Nat} {l r : List Int} (hn : l.length = n) (hm : r.length = m) (hl : Rd w A (nums .u32 l)) (hr : Rd w B (nums .u32 r)) (hL : Lim l) (hR : Lim r) (hn' : n ≤ 1099511627776) (hm' : m ≤ 1099511627776) (K : Value → World → Prop)
  (hK : ∀ v w', Gw .u32 w w' v (limbs (val l * val r)) → K v w') : callK Tryz.prog 110 [.slice A n c, .slice B m d] w K := by
 refine call_of Tryz.func110 Code.h110 (by simp[Code.c110]) ?_
 subst hn
 subst hm
 simp(disch:=omega)only[EZ,↓EP,↓reduceIte,Za,Zb,Zc,Zd,Ze,Zf,Zg,Zj,Zk,Zl,Zm,Zn,Zp,Zq,reduceCtorEq,Code.c110]
 have eN : ((l.length : Int) + (r.length : Int)).toNat = l.length + r.length := by omega
 refine al_k (nums .u32 (List.replicate (l.length + r.length) 0)) (by rw[madeCells_list,nums_replicate,eN]) fun w1 n1 => ?_
 simp(disch:=omega)only[EZ,↓EP,↓reduceIte,Za,Zb,Zc,Zd,Ze,Zf,Zg,Zj,Zk,Zl,Zm,Zn,Zp,Zq,reduceCtorEq]
 refine loop_inv (fun t ρ w2 => ∃ (i : Nat) (o : List Int), ρ 18 = .int .i64 i ∧ i ≤ l.length ∧ t = l.length - i ∧ Blk w2 w.heap.size (nums .u32 o) ∧ o.length = l.length + r.length ∧ Lim o ∧ val (o.take (i + r.length)) = val (l.take i) * val r ∧ Fr w w2 nob) _
  ⟨0, _, by simp(disch:=omega)only[EZ,↓EP,↓reduceIte,Za,Zb,Zc,Zd,Ze,Zf,Zg,Zj,Zk,Zl,Zm,Zn,Zp,Zq,reduceCtorEq], by omega, rfl, n1.blk, by simp, Lim.zeros _, by simp[val_nil,val_zeros,List.take_replicate], n1.fr nob⟩ ?_
 rintro t ρ w2 hf ⟨i, o0, h18, hi, rfl, hB0, ho0, hO0, hv0, f2⟩ N hN
 have q0 : ρ 0 = .slice A l.length c := by rw[hf 0 rfl]; simp(disch:=omega)only[EZ,↓EP,↓reduceIte,Za,Zb,Zc,Zd,Ze,Zf,Zg,Zj,Zk,Zl,Zm,Zn,Zp,Zq,reduceCtorEq]
 have q1 : ρ 1 = .slice B r.length d := by rw[hf 1 rfl]; simp(disch:=omega)only[EZ,↓EP,↓reduceIte,Za,Zb,Zc,Zd,Ze,Zf,Zg,Zj,Zk,Zl,Zm,Zn,Zp,Zq,reduceCtorEq]
 have q5 : ρ 5 = .slice (some ⟨w.heap.size, 0, none⟩) (l.length + r.length) (l.length + r.length) := by rw[hf 5 rfl]; simp(disch:=omega)only[EZ,↓EP,↓reduceIte,Za,Zb,Zc,Zd,Ze,Zf,Zg,Zj,Zk,Zl,Zm,Zn,Zp,Zq,reduceCtorEq,eN]
 have q17 : ρ 17 = .int .i64 l.length := by rw[hf 17 rfl]; simp(disch:=omega)only[EZ,↓EP,↓reduceIte,Za,Zb,Zc,Zd,Ze,Zf,Zg,Zj,Zk,Zl,Zm,Zn,Zp,Zq,reduceCtorEq]
 clear hf
 by_cases hil : (i : Int) < (l.length : Int)
 ·have bx := hL.at i
  simp(disch:=omega)only[EZ,↓EP,↓reduceIte,Za,Zb,Zc,Zd,Ze,Zf,Zg,Zj,Zk,Zl,Zm,Zn,Zp,Zq,reduceCtorEq,h18,q0,q1,q5,q17]
  refine loop_inv (fun t ρ2 w3 => ∃ (k : Nat) (o : List Int) (cr : Int), ρ2 23 = .int .i64 k ∧ k ≤ r.length ∧ t = r.length - k ∧ ρ2 7 = .int .u64 cr ∧ 0 ≤ cr ∧ cr < 4294967296 ∧ Blk w3 w.heap.size (nums .u32 o) ∧ o.length = l.length + r.length ∧ Lim o ∧ val (o.take (i + k)) + cr * pw (i + k) = val (o0.take (i + k)) + at' l i * val (r.take k) * pw i ∧ (∀ j : Nat, i + k ≤ j → at' o j = at' o0 j) ∧ Fr w w3 nob) _
   ⟨0, o0, 0, by simp(disch:=omega)only[EZ,↓EP,↓reduceIte,Za,Zb,Zc,Zd,Ze,Zf,Zg,Zj,Zk,Zl,Zm,Zn,Zp,Zq,reduceCtorEq], by omega, rfl, by simp(disch:=omega)only[EZ,↓EP,↓reduceIte,Za,Zb,Zc,Zd,Ze,Zf,Zg,Zj,Zk,Zl,Zm,Zn,Zp,Zq,reduceCtorEq], by omega, by omega, hB0, ho0, hO0, by simp[val_nil], fun _ _ => rfl, f2⟩ ?_
  rintro t ρ2 w3 hf ⟨k, o, cr, h23, hk, rfl, h7, hc0, hc1, hB, ho, hO, hv, hsame, f3⟩ N2 hN2
  have p0 : ρ2 0 = .slice A l.length c := by rw[hf 0 rfl]; simp(disch:=omega)only[EZ,↓EP,↓reduceIte,Za,Zb,Zc,Zd,Ze,Zf,Zg,Zj,Zk,Zl,Zm,Zn,Zp,Zq,reduceCtorEq,q0]
  have p1 : ρ2 1 = .slice B r.length d := by rw[hf 1 rfl]; simp(disch:=omega)only[EZ,↓EP,↓reduceIte,Za,Zb,Zc,Zd,Ze,Zf,Zg,Zj,Zk,Zl,Zm,Zn,Zp,Zq,reduceCtorEq,q1]
  have p5 : ρ2 5 = .slice (some ⟨w.heap.size, 0, none⟩) (l.length + r.length) (l.length + r.length) := by rw[hf 5 rfl]; simp(disch:=omega)only[EZ,↓EP,↓reduceIte,Za,Zb,Zc,Zd,Ze,Zf,Zg,Zj,Zk,Zl,Zm,Zn,Zp,Zq,reduceCtorEq,q5]
  have p6 : ρ2 6 = .int .i64 i := by rw[hf 6 rfl]; simp(disch:=omega)only[EZ,↓EP,↓reduceIte,Za,Zb,Zc,Zd,Ze,Zf,Zg,Zj,Zk,Zl,Zm,Zn,Zp,Zq,reduceCtorEq,h18]
  have p18 : ρ2 18 = .int .i64 i := by rw[hf 18 rfl]; simp(disch:=omega)only[EZ,↓EP,↓reduceIte,Za,Zb,Zc,Zd,Ze,Zf,Zg,Zj,Zk,Zl,Zm,Zn,Zp,Zq,reduceCtorEq,h18]
  have p22 : ρ2 22 = .int .i64 r.length := by rw[hf 22 rfl]; simp(disch:=omega)only[EZ,↓EP,↓reduceIte,Za,Zb,Zc,Zd,Ze,Zf,Zg,Zj,Zk,Zl,Zm,Zn,Zp,Zq,reduceCtorEq,q1]
  clear hf
  by_cases hkr : (k : Int) < (r.length : Int)
  ·obtain ⟨p, rfl, _, hp⟩ := (hl.nb f3).get (by rw[nums_length]; omega)
   have cp := hp.numN (j := i) (by omega)
   obtain ⟨q, rfl, _, hq⟩ := (hr.nb f3).get (by rw[nums_length]; omega)
   have cq := hq.numN (j := k) (by omega)
   have co := hB.numN (j := i + k) (by omega)
   have by' := hR.at k
   have bo := hO.at (i + k : Nat)
   have hm := mul_bd bx by'
   have eik : ((i : Int) + (k : Int)).toNat = i + k := by omega
   have e1 := val_take_succ' r k
   have e2 := val_take_succ' o0 (i + k)
   have e3 := hsame (i + k) (Nat.le_refl _)
   rw[← e3] at e2
   simp(disch:=omega)only[Zu,Zv,Zx,Zz,EZ,↓EP,↓reduceIte,Za,Zb,Zc,Zd,Ze,Zf,Zg,Zj,Zk,Zl,Zm,Zn,Zp,Zq,reduceCtorEq,h23,h7,p0,p1,p5,p6,p22,cp,cq,co,eik]
   intro m1
   simp(disch:=omega)only[Zu,Zv,Zx,Zz,EZ,↓EP,↓reduceIte,Za,Zb,Zc,Zd,Ze,Zf,Zg,Zj,Zk,Zl,Zm,Zn,Zp,Zq,reduceCtorEq,h23,p5,p6,eik,wu32_mod]
   generalize hT : at' l i * at' r k + at' o (i + k : Nat) + cr = T at *
   refine st_num (hB.drewN m1) (by omega) fun w4 p4 => ?_
   have e4 := val_step (o := o) (k := i + k) (x := T % 4294967296) (y := T / 4294967296) (by omega)
   simp(disch:=omega)only[Zu,Zv,Zx,Zz,EZ,↓EP,↓reduceIte,Za,Zb,Zc,Zd,Ze,Zf,Zg,Zj,Zk,Zl,Zm,Zn,Zp,Zq,reduceCtorEq,h23]
   refine hN2 (r.length - (k + 1)) _ _ (by omega) ⟨k + 1, _, T / 4294967296, by simp(disch:=omega)only[EZ,↓EP,↓reduceIte,Za,Zb,Zc,Zd,Ze,Zf,Zg,Zj,Zk,Zl,Zm,Zn,Zp,Zq,reduceCtorEq,h23,Int.natCast_add], by omega, rfl, by simp(disch:=omega)only[EZ,↓EP,↓reduceIte,Za,Zb,Zc,Zd,Ze,Zf,Zg,Zj,Zk,Zl,Zm,Zn,Zp,Zq,reduceCtorEq], by omega, by omega, p4.blk, by rw[List.length_set]; exact ho, hO.set _ (by omega) (by omega), ?_, ?_, (f3.nb (Fr.drewN w3 m1 nob)).own p4.fr fun x e => by omega⟩
   ·rw[show i + (k + 1) = i + k + 1 by omega, e4, e1, e2, pw_add] 
    rw[pw_add] at hv
    have := Int.mul_ediv_add_emod T 4294967296
    grind
   ·intro j hj
    rw[at_setO (by omega)]
    exact hsame j (by omega)
  ·have hk : k = r.length := by omega
   subst hk
   have e1 := val_take_succ' l i
   have eik : ((i : Int) + (r.length : Int)).toNat = i + r.length := by omega
   simp(disch:=omega)only[Zu,Zv,Zx,Zz,EZ,↓EP,↓reduceIte,Za,Zb,Zc,Zd,Ze,Zf,Zg,Zj,Zk,Zl,Zm,Zn,Zp,Zq,reduceCtorEq,h23,h7,p1,p5,p6,p18,p22,eik]
   refine st_num hB (by omega) fun w4 p4 => ?_
   simp(disch:=omega)only[Zu,Zv,Zx,Zz,EZ,↓EP,↓reduceIte,Za,Zb,Zc,Zd,Ze,Zf,Zg,Zj,Zk,Zl,Zm,Zn,Zp,Zq,reduceCtorEq,p18]
   refine hN (l.length - (i + 1)) _ _ (by omega) ⟨i + 1, _, by simp(disch:=omega)only[EZ,↓EP,↓reduceIte,Za,Zb,Zc,Zd,Ze,Zf,Zg,Zj,Zk,Zl,Zm,Zn,Zp,Zq,reduceCtorEq,p18,Int.natCast_add], by omega, rfl, p4.blk, by rw[List.length_set]; exact ho, hO.set _ (by omega) (by omega), ?_, f3.own p4.fr fun x e => by omega⟩
   rw[show i + 1 + r.length = i + r.length + 1 by omega, val_take_set (by omega), hv, hv0, e1, List.take_length]
   grind
 ·have hi : i = l.length := by omega
  subst hi
  simp(disch:=omega)only[EZ,↓EP,↓reduceIte,Za,Zb,Zc,Zd,Ze,Zf,Zg,Zj,Zk,Zl,Zm,Zn,Zp,Zq,reduceCtorEq,h18,q5,q17]
  rw[← ho0,List.take_length,List.take_length] at hv0
  refine cut_spec ho0 (blk_rd hB0) hO0 (Nat.le_refl _) (by omega) _ fun m hm he _ => ?_
  rw[hv0] at he
  simp(disch:=omega)only[EZ,↓EP,↓reduceIte,Za,Zb,Zc,Zd,Ze,Zf,Zg,Zj,Zk,Zl,Zm,Zn,Zp,Zq,reduceCtorEq]
  exact hK _ _ (own_cut hB0 (Nat.le_refl _) f2 ho0 hm he)
end Go.Proofs.YtcgplgpdcfocpaaGreatDoor.Spec
end
section
namespace Go.Proofs.YtcgplgpdcfocpaaGreatDoor.Spec
open Go Go.RowKit Go.Proofs Go.Proofs.YtcgplgpdcfocpaaGreatDoor.Eng Go.Proofs.YtcgplgpdcfocpaaGreatDoor.Code Go.Proofs.YtcgplgpdcfocpaaGreatDoor.Big
attribute [local irreducible] callK S.W opsW scrW
theorem low_shl {a : Int} {s : Nat} (ha : 0 ≤ a) (hs : s < 32) : ∃ z : Int, 0 ≤ z ∧ (a * 2 ^ s) % 4294967296 = z * 2 ^ s ∧ z * 2 ^ s + 2 ^ s ≤ 4294967296 := by
 have hp : (0 : Int) < 2 ^ s := p2_pos s
 have hq : (0 : Int) < 2 ^ (32 - s) := p2_pos (32 - s)
 have e : (4294967296 : Int) = 2 ^ s * 2 ^ (32 - s) := by rw[← Int.pow_add, show s + (32 - s) = 32 by omega]; rfl
 have h1 := Int.emod_nonneg a (show (2 : Int) ^ (32 - s) ≠ 0 by omega)
 have h2 := Int.emod_lt_of_pos a hq
 refine ⟨a % 2 ^ (32 - s), h1, ?_, ?_⟩
 ·rw[e,Int.mul_comm a,Int.mul_emod_mul_of_pos _ _ hp,Int.mul_comm]
 ·have := Int.mul_le_mul_of_nonneg_right (show a % 2 ^ (32 - s) + 1 ≤ 2 ^ (32 - s) by omega) (show (0 : Int) ≤ 2 ^ s by omega)
  rw[e]
  grind
theorem shl_bd {a : Int} {s : Nat} (ha : 0 ≤ a ∧ a < 4294967296) (hs : s < 32) : 0 ≤ a * 2 ^ s ∧ a * 2 ^ s < 9223372036854775808 ∧ a * 2 ^ s / 4294967296 < 2 ^ s := by
 have hp : (0 : Int) < 2 ^ s := p2_pos s
 have h31 : (2 : Int) ^ s ≤ 2 ^ 31 := p2_mono (by omega)
 have e31 : (2 : Int) ^ 31 = 2147483648 := rfl
 refine ⟨Int.mul_nonneg ha.1 (by omega), ?_, ?_⟩
 ·have := Int.mul_le_mul (show a ≤ 4294967295 by omega) (show (2 : Int) ^ s ≤ 2147483648 by omega) (by omega) (by omega)
  omega
 ·apply Int.ediv_lt_of_lt_mul (by decide)
  have := Int.mul_lt_mul_of_pos_right ha.2 hp
  omega
set_option maxHeartbeats 1000000 in
theorem shifted_spec {w : World} {A : Option Addr} {n c s : Nat} {l : List Int} (hn : l.length = n) (hl : Rd w A (nums .u32 l)) (hL : Lim l) (hn' : n ≤ 1099511627776) (hs : s < 32) (K : Value → World → Prop)
  (hK : ∀ o w', Blk w' w.heap.size (nums .u32 o) → o.length = n + 1 → Lim o → val o = val l * 2 ^ s → Fr w w' nob → K (.slice (some ⟨w.heap.size, 0, none⟩) (n + 1) (n + 1)) w') : callK Tryz.prog 107 [.slice A n c, .int .i64 s] w K := by
 refine call_of Tryz.func107 Code.h107 (by simp[Code.c107]) ?_
 subst hn
 have hp : (0 : Int) < 2 ^ s := p2_pos s
 have eN : ((l.length : Int) + 1).toNat = l.length + 1 := by omega
 simp(disch:=omega)only[EZ,↓EP,↓reduceIte,Za,Zb,Zc,Zd,Ze,Zf,Zg,Zj,Zk,Zl,Zm,Zn,Zp,Zq,reduceCtorEq,Code.c107]
 refine al_k (nums .u32 (List.replicate (l.length + 1) 0)) (by rw[madeCells_list,nums_replicate,eN]) fun w1 n1 => ?_
 simp(disch:=omega)only[EZ,↓EP,↓reduceIte,Za,Zb,Zc,Zd,Ze,Zf,Zg,Zj,Zk,Zl,Zm,Zn,Zp,Zq,reduceCtorEq]
 refine loop_inv (fun t ρ w2 => ∃ (k : Nat) (o : List Int), ρ 14 = .int .i64 k ∧ k ≤ l.length ∧ t = l.length - k ∧ Blk w2 w.heap.size (nums .u32 o) ∧ o.length = l.length + 1 ∧ Lim o ∧ at' o k < 2 ^ s ∧ val (o.take k) + at' o k * pw k = val (l.take k) * 2 ^ s ∧ Fr w w2 nob) _
  ⟨0, _, by simp(disch:=omega)only[EZ,↓EP,↓reduceIte,Za,Zb,Zc,Zd,Ze,Zf,Zg,Zj,Zk,Zl,Zm,Zn,Zp,Zq,reduceCtorEq], by omega, rfl, n1.blk, by simp, Lim.zeros _, by rw[at_zeros]; exact hp, by rw[at_zeros]; simp[val_nil], n1.fr nob⟩ ?_
 rintro t ρ w2 hf ⟨k, o, h14, hk, rfl, hB, ho, hO, hlt, hv, f2⟩ N hN
 have q0 : ρ 0 = .slice A l.length c := by rw[hf 0 rfl]; simp(disch:=omega)only[EZ,↓EP,↓reduceIte,Za,Zb,Zc,Zd,Ze,Zf,Zg,Zj,Zk,Zl,Zm,Zn,Zp,Zq,reduceCtorEq]
 have q1 : ρ 1 = .int .i64 s := by rw[hf 1 rfl]; simp(disch:=omega)only[EZ,↓EP,↓reduceIte,Za,Zb,Zc,Zd,Ze,Zf,Zg,Zj,Zk,Zl,Zm,Zn,Zp,Zq,reduceCtorEq]
 have q5 : ρ 5 = .slice (some ⟨w.heap.size, 0, none⟩) (l.length + 1) (l.length + 1) := by rw[hf 5 rfl]; simp(disch:=omega)only[EZ,↓EP,↓reduceIte,Za,Zb,Zc,Zd,Ze,Zf,Zg,Zj,Zk,Zl,Zm,Zn,Zp,Zq,reduceCtorEq,eN]
 have q13 : ρ 13 = .int .i64 l.length := by rw[hf 13 rfl]; simp(disch:=omega)only[EZ,↓EP,↓reduceIte,Za,Zb,Zc,Zd,Ze,Zf,Zg,Zj,Zk,Zl,Zm,Zn,Zp,Zq,reduceCtorEq]
 clear hf
 by_cases hkl : (k : Int) < (l.length : Int)
 ·obtain ⟨p, rfl, _, hp'⟩ := (hl.nb f2).get (by rw[nums_length]; omega)
  have cp := hp'.numN (j := k) (by omega)
  have co := hB.numN (j := k) (by omega)
  have bx := hL.at k
  have bo := hO.at k
  obtain ⟨h1, h2, h3⟩ := shl_bd bx hs
  obtain ⟨z, hz0, hz, hz2⟩ := low_shl (s := s) bx.1 hs
  have em : min s 64 = s := by omega
  have eor : bits .or .u32 (at' o k) (at' l k * 2 ^ s % 4294967296) = z * 2 ^ s + at' o k := by
   rw[hz]; exact or32_add bo.1 hlt hz0 (by omega)
  have e1 := val_take_succ' l k
  have hdm := Int.mul_ediv_add_emod (at' l k * 2 ^ s) 4294967296
  simp(disch:=omega)only[Zu,Zv,Zx,Zz,EZ,↓EP,↓reduceIte,Za,Zb,Zc,Zd,Ze,Zf,Zg,Zj,Zk,Zl,Zm,Zn,Zp,Zq,reduceCtorEq,h14,q0,q1,q5,q13,cp,co,em,wu32_mod,eor]
  refine st_num hB (by omega) fun w4 p4 => ?_
  have hd : at' l k * 2 ^ s / 4294967296 % 4294967296 = at' l k * 2 ^ s / 4294967296 := by omega
  simp(disch:=omega)only[Zu, Zv, Zx, Zz, EO, ↓EP, EQ, EM, ↓reduceIte, Za, Zb, Zc, Zd, Ze, Zf, Zg, Zj, Zk, Zl, Zm, Zn, Zp, Zq, reduceCtorEq, h14, q5, show ((k : Int) + 1).toNat = k + 1 by omega, wu32_mod, hd]
  have hl4 : (o.set k (z * 2 ^ s + at' o k)).length = l.length + 1 := by rw[List.length_set]; exact ho
  refine st_num p4.blk (by omega) fun w5 p5 => ?_
  simp(disch:=omega)only[Zu,Zv,Zx,Zz,EZ,↓EP,↓reduceIte,Za,Zb,Zc,Zd,Ze,Zf,Zg,Zj,Zk,Zl,Zm,Zn,Zp,Zq,reduceCtorEq,h14]
  have hzs : 0 ≤ z * 2 ^ s := Int.mul_nonneg hz0 (by omega)
  refine hN (l.length - (k + 1)) _ _ (by omega) ⟨k + 1, _, by simp(disch:=omega)only[EZ,↓EP,↓reduceIte,Za,Zb,Zc,Zd,Ze,Zf,Zg,Zj,Zk,Zl,Zm,Zn,Zp,Zq,reduceCtorEq,h14,Int.natCast_add], by omega, rfl, p5.blk, by rw[List.length_set]; exact hl4, (hO.set _ (by omega) (by omega)).set _ (by omega) (by omega), ?_, ?_, (f2.own p4.fr fun x e => by omega).own p5.fr fun x e => by omega⟩
  ·rw[at_setN (by omega)]; exact h3
  ·rw[at_setN (by omega),take_set,val_take_set (by omega),e1,pw_succ]
   grind
 ·have hk : k = l.length := by omega
  subst hk
  simp(disch:=omega)only[EZ,↓EP,↓reduceIte,Za,Zb,Zc,Zd,Ze,Zf,Zg,Zj,Zk,Zl,Zm,Zn,Zp,Zq,reduceCtorEq,h14,q5,q13]
  refine hK o w2 hB ho hO ?_ f2
  rw[← val_take_all (l := o) (n := l.length + 1) (by omega),val_take_succ' o l.length,hv,List.take_length]
theorem div32_spec (hi lo y : Int) (hh : 0 ≤ hi ∧ hi < y) (hl : 0 ≤ lo ∧ lo < 4294967296) (hy : y < 4294967296) (w : World) (K : Value → World → Prop)
  (hK : ∀ n, K (.tuple #[.int .u32 ((hi * 4294967296 + lo) / y), .int .u32 ((hi * 4294967296 + lo) % y)]) (w.drewN n)) : callK Tryz.prog 120 [.int .u32 hi, .int .u32 lo, .int .u32 y] w K := by
 refine call_of Tryz.func120 Code.h120 (by simp[Code.c120]) ?_
 have e := or_shl (a := hi) (b := lo) (by omega) (by omega) hl.1 hl.2
 have h1 : (hi * 4294967296 + lo) / y < 4294967296 := by
  apply Int.ediv_lt_of_lt_mul (by omega)
  have := Int.mul_le_mul_of_nonneg_right (show hi + 1 ≤ y by omega) (show (0 : Int) ≤ 4294967296 by decide)
  omega
 have h2 := Int.ediv_nonneg (show 0 ≤ hi * 4294967296 + lo by omega) (show 0 ≤ y by omega)
 have h3 := Int.emod_nonneg (hi * 4294967296 + lo) (show y ≠ 0 by omega)
 have h4 := Int.emod_lt_of_pos (hi * 4294967296 + lo) (show 0 < y by omega)
 simp(disch:=omega)only[Zu,Zv,Zx,Zz,EZ,↓EP,↓reduceIte,Za,Zb,Zc,Zd,Ze,Zf,Zg,Zj,Zk,Zl,Zm,Zn,Zp,Zq,reduceCtorEq,Code.c120,W_join,e]
 exact hK
theorem val_drop_at (l : List Int) {k : Nat} (h : k < l.length) : val (l.drop k) = at' l k + 4294967296 * val (l.drop (k + 1)) := by
 rw[List.drop_eq_getElem_cons h,val_cons,at_get h]
theorem drop_set {l : List Int} {k : Nat} {x : Int} (h : k < l.length) : val ((l.set k x).drop k) = x + 4294967296 * val (l.drop (k + 1)) := by
 rw[val_drop_at _ (by rw [List.length_set]; exact h),at_setN h,List.drop_set_of_lt (by omega)]
set_option maxHeartbeats 1000000 in
theorem short_spec {w : World} {A : Option Addr} {n c : Nat} {l : List Int} {d : Int} (hn : l.length = n) (hl : Rd w A (nums .u32 l)) (hL : Lim l) (hn' : n ≤ 1099511627776) (hd : 0 < d ∧ d < 4294967296) (K : Value → World → Prop)
  (hK : ∀ u v w', Gw .u32 w w' u (limbs (val l / d)) → Gw .u32 w w' v (limbs (val l % d)) → (∀ b, blkOf u = some b → blkOf v ≠ some b) → K (.tuple #[u, v]) w') : callK Tryz.prog 105 [.slice A n c, .int .u32 d] w K := by
 refine call_of Tryz.func105 Code.h105 (by simp[Code.c105]) ?_
 subst hn
 simp(disch:=omega)only[EZ,↓EP,↓reduceIte,Za,Zb,Zc,Zd,Ze,Zf,Zg,Zj,Zk,Zl,Zm,Zn,Zp,Zq,reduceCtorEq,Code.c105]
 refine al_k (nums .u32 (List.replicate l.length 0)) (by rw[madeCells_list,nums_replicate]) fun w1 n1 => ?_
 simp(disch:=omega)only[EZ,↓EP,↓reduceIte,Za,Zb,Zc,Zd,Ze,Zf,Zg,Zj,Zk,Zl,Zm,Zn,Zp,Zq,reduceCtorEq]
 refine loop_inv (fun t ρ w2 => ∃ (o : List Int) (rs : Int), ρ 7 = .int .i64 ((t : Int) - 1) ∧ t ≤ l.length ∧ ρ 6 = .int .u32 rs ∧ 0 ≤ rs ∧ rs < d ∧ Blk w2 w.heap.size (nums .u32 o) ∧ o.length = l.length ∧ Lim o ∧ val (l.drop t) = val (o.drop t) * d + rs ∧ Fr w w2 nob) l.length
  ⟨_, 0, by simp(disch:=omega)only[EZ,↓EP,↓reduceIte,Za,Zb,Zc,Zd,Ze,Zf,Zg,Zj,Zk,Zl,Zm,Zn,Zp,Zq,reduceCtorEq], by omega, by simp(disch:=omega)only[EZ,↓EP,↓reduceIte,Za,Zb,Zc,Zd,Ze,Zf,Zg,Zj,Zk,Zl,Zm,Zn,Zp,Zq,reduceCtorEq], by omega, by omega, n1.blk, by simp, Lim.zeros _, by simp[val_nil], n1.fr nob⟩ ?_
 rintro t ρ w2 hf ⟨o, rs, h7, ht, h6, hr0, hr1, hB, ho, hO, hv, f2⟩ N hN
 have q0 : ρ 0 = .slice A l.length c := by rw[hf 0 rfl]; simp(disch:=omega)only[EZ,↓EP,↓reduceIte,Za,Zb,Zc,Zd,Ze,Zf,Zg,Zj,Zk,Zl,Zm,Zn,Zp,Zq,reduceCtorEq]
 have q1 : ρ 1 = .int .u32 d := by rw[hf 1 rfl]; simp(disch:=omega)only[EZ,↓EP,↓reduceIte,Za,Zb,Zc,Zd,Ze,Zf,Zg,Zj,Zk,Zl,Zm,Zn,Zp,Zq,reduceCtorEq]
 have q4 : ρ 4 = .slice (some ⟨w.heap.size, 0, none⟩) l.length l.length := by rw[hf 4 rfl]; simp(disch:=omega)only[EZ,↓EP,↓reduceIte,Za,Zb,Zc,Zd,Ze,Zf,Zg,Zj,Zk,Zl,Zm,Zn,Zp,Zq,reduceCtorEq]
 clear hf
 cases t with
 | succ k =>
  have e1 : ((k + 1 : Nat) : Int) - 1 = k := by omega
  rw[e1] at h7
  obtain ⟨p, rfl, _, hp⟩ := (hl.nb f2).get (by rw[nums_length]; omega)
  have cp := hp.numN (j := k) (by omega)
  have bx := hL.at k
  simp(disch:=omega)only[EZ,↓EP,↓reduceIte,Za,Zb,Zc,Zd,Ze,Zf,Zg,Zj,Zk,Zl,Zm,Zn,Zp,Zq,reduceCtorEq,h7,h6,q0,q1,q4,cp]
  refine div32_spec rs (at' l k) d ⟨hr0, hr1⟩ bx hd.2 _ _ fun m1 => ?_
  have h1 : (rs * 4294967296 + at' l k) / d < 4294967296 := by
   apply Int.ediv_lt_of_lt_mul (by omega)
   have := Int.mul_le_mul_of_nonneg_right (show rs + 1 ≤ d by omega) (show (0 : Int) ≤ 4294967296 by decide)
   omega
  have h2 := Int.ediv_nonneg (show 0 ≤ rs * 4294967296 + at' l k by omega) (show 0 ≤ d by omega)
  have h3 := Int.emod_nonneg (rs * 4294967296 + at' l k) (show d ≠ 0 by omega)
  have h4 := Int.emod_lt_of_pos (rs * 4294967296 + at' l k) (show 0 < d by omega)
  have h5 := Int.mul_ediv_add_emod (rs * 4294967296 + at' l k) d
  simp(disch:=omega)only[EZ,↓EP,↓reduceIte,Za,Zb,Zc,Zd,Ze,Zf,Zg,Zj,Zk,Zl,Zm,Zn,Zp,Zq,reduceCtorEq,h7,q4]
  refine st_num (hB.drewN m1) (by omega) fun w4 p4 => ?_
  simp(disch:=omega)only[EZ,↓EP,↓reduceIte,Za,Zb,Zc,Zd,Ze,Zf,Zg,Zj,Zk,Zl,Zm,Zn,Zp,Zq,reduceCtorEq,h7]
  refine hN k _ _ (by omega) ⟨_, _, by simp(disch:=omega)only[EZ,↓EP,↓reduceIte,Za,Zb,Zc,Zd,Ze,Zf,Zg,Zj,Zk,Zl,Zm,Zn,Zp,Zq,reduceCtorEq,h7], by omega, by simp(disch:=omega)only[EZ,↓EP,↓reduceIte,Za,Zb,Zc,Zd,Ze,Zf,Zg,Zj,Zk,Zl,Zm,Zn,Zp,Zq,reduceCtorEq], h3, h4, p4.blk, by rw[List.length_set]; exact ho, hO.set _ h2 h1, ?_, (f2.nb (Fr.drewN w2 m1 nob)).own p4.fr fun x e => by omega⟩
  rw[val_drop_at l (by omega),drop_set (by omega),hv]
  grind
 | zero =>
  simp(disch:=omega)only[EZ,↓EP,↓reduceIte,Za,Zb,Zc,Zd,Ze,Zf,Zg,Zj,Zk,Zl,Zm,Zn,Zp,Zq,reduceCtorEq,h7,h6,q4,Int.natCast_zero]
  rw[List.drop_zero,List.drop_zero] at hv
  have hv1 : val l / d = val o := by
   rw[hv,Int.mul_comm,Int.mul_add_ediv_left _ _ (by omega),Int.ediv_eq_zero_of_lt hr0 hr1,Int.add_zero]
  have hv2 : val l % d = rs := by
   rw[hv,Int.mul_comm,Int.mul_add_emod_self_left,Int.emod_eq_of_lt hr0 hr1]
  refine cut_spec ho (blk_rd hB) hO (Nat.le_refl _) (by omega) _ fun m hm he _ => ?_
  simp(disch:=omega)only[EZ,↓EP,↓reduceIte,Za,Zb,Zc,Zd,Ze,Zf,Zg,Zj,Zk,Zl,Zm,Zn,Zp,Zq,reduceCtorEq,h6]
  refine bsl1 fun w3 n3 => ?_
  simp(disch:=omega)only[EZ,↓EP,↓reduceIte,Za,Zb,Zc,Zd,Ze,Zf,Zg,Zj,Zk,Zl,Zm,Zn,Zp,Zq,reduceCtorEq]
  have L3 : Lim [rs] := Lim.mk (by omega) (by omega) Lim.nil
  refine cut_spec (n := 1) rfl n3.rdl L3 (Nat.le_refl _) (by omega) _ fun m2 hm2 he2 _ => ?_
  simp(disch:=omega)only[EZ,↓EP,↓reduceIte,Za,Zb,Zc,Zd,Ze,Zf,Zg,Zj,Zk,Zl,Zm,Zn,Zp,Zq,reduceCtorEq]
  have lt := hB.lt
  have f3 := f2.nb (n3.fr nob)
  refine hK _ _ _ (own_cut (hB.nb (n3.fr nob)) (Nat.le_refl _) f3 ho hm (by rw[he,hv1])) (own_cut n3.blk f2.size f3 rfl hm2 (by rw[he2,hv2,val_one])) fun b e1 e2 => ?_
  have h1 : w.heap.size = b := Option.some.inj e1
  have h2 : w2.heap.size = b := Option.some.inj e2
  omega
end Go.Proofs.YtcgplgpdcfocpaaGreatDoor.Spec
end
section
namespace Go.Proofs.YtcgplgpdcfocpaaGreatDoor.Spec
open Go Go.RowKit Go.Proofs Go.Proofs.YtcgplgpdcfocpaaGreatDoor.Eng Go.Proofs.YtcgplgpdcfocpaaGreatDoor.Code Go.Proofs.YtcgplgpdcfocpaaGreatDoor.Big
attribute [local irreducible] callK S.W opsW scrW
theorem mul_le_r {a b c : Int} (h : a ≤ b) (hc : 0 ≤ c) : a * c ≤ b * c := Int.mul_le_mul_of_nonneg_right h hc
theorem guess_down {q rest v1 v2 top u : Int} (hq : q * v1 + rest = top) (h : rest * 4294967296 + u < q * v2) (Q : Int) (hQ : Q * (v1 * 4294967296 + v2) ≤ top * 4294967296 + u) (hv : 0 ≤ v1 * 4294967296 + v2) : Q ≤ q - 1 := by
 by_cases hle : Q ≤ q - 1
 ·exact hle
 ·exfalso
  have := mul_le_r (show q ≤ Q by omega) hv
  have e : q * (v1 * 4294967296 + v2) = (q * v1) * 4294967296 + q * v2 := by grind
  have e2 : (q * v1) * 4294967296 = (top - rest) * 4294967296 := by rw[← hq]; grind
  omega
set_option maxHeartbeats 1000000 in
theorem guess_spec {w : World} {A : Option Addr} {m c : Nat} {u : List Int} {v1 v2 : Int} (hu : u.length = m + 3) (hr : Rd w A (nums .u32 u)) (hU : Lim u) (h40 : m ≤ 1099511627776) (h1 : 2147483648 ≤ v1 ∧ v1 < 4294967296) (h2 : 0 ≤ v2 ∧ v2 < 4294967296) (htop : at' u (m + 2 : Nat) ≤ v1) (K : Value → World → Prop)
  (hK : ∀ q n, 0 ≤ q → q < 4294967296 → q * (v1 * 4294967296 + v2) ≤ (at' u (m + 2 : Nat) * 4294967296 + at' u (m + 1 : Nat)) * 4294967296 + at' u m →
   (∀ Q, Q ≤ 4294967295 → Q * (v1 * 4294967296 + v2) ≤ (at' u (m + 2 : Nat) * 4294967296 + at' u (m + 1 : Nat)) * 4294967296 + at' u m → Q ≤ q) → K (.int .u32 q) (w.drewN n)) : callK Tryz.prog 108 [.slice A (m + 3) c, .int .u32 v1, .int .u32 v2] w K := by
 refine call_of Tryz.func108 Code.h108 (by simp[Code.c108]) ?_
 obtain ⟨p, rfl, _, hp⟩ := hr.get (by rw[nums_length]; omega)
 have c2 := hp.numN (j := m + 2) (by omega)
 have c1 := hp.numN (j := m + 1) (by omega)
 have c0 := hp.numN (j := m) (by omega)
 have b2 := hU.at (m + 2 : Nat)
 have b1 := hU.at (m + 1 : Nat)
 have b0 := hU.at m
 generalize at' u (m + 2 : Nat) = u2 at *
 generalize at' u (m + 1 : Nat) = u1 at *
 generalize at' u m = u0 at *
 have e1 : ((m + 3 : Nat) : Int) - 1 = ((m + 2 : Nat) : Int) := by omega
 have e2 : ((m + 3 : Nat) : Int) - 2 = ((m + 1 : Nat) : Int) := by omega
 have e3 : ((m + 3 : Nat) : Int) - 3 = (m : Int) := by omega
 have eo := or_shl (a := u2) (b := u1) b2.1 b2.2 b1.1 b1.2
 simp(disch:=omega)only[Zu,Zv,Zx,Zz,EZ,↓EP,↓reduceIte,Za,Zb,Zc,Zd,Ze,Zf,Zg,Zj,Zk,Zl,Zm,Zn,Zp,Zq,reduceCtorEq,Code.c108,W_joinT,e1,e2,c2,c1,eo]
 generalize hT : u2 * 4294967296 + u1 = top at *
 intro m1
 have q0 := Int.ediv_nonneg (show 0 ≤ top by omega) (show 0 ≤ v1 by omega)
 have r0 := Int.emod_nonneg top (show v1 ≠ 0 by omega)
 have r1 := Int.emod_lt_of_pos top (show 0 < v1 by omega)
 have hdm := Int.mul_ediv_add_emod top v1
 have hqtop : top / v1 ≤ 4294967297 := by
  apply Int.le_of_lt_add_one
  apply Int.ediv_lt_of_lt_mul (by omega)
  have := mul_le_r htop (show (0 : Int) ≤ 4294967296 by decide)
  omega
 have hv : 0 ≤ v1 * 4294967296 + v2 := by omega
 refine join_cut (fun ρ' w' => ∃ q n, w' = w.drewN n ∧ ρ' 9 = .int .u64 q ∧ 0 ≤ q ∧ q < 4294967296 ∧ q * (v1 * 4294967296 + v2) ≤ top * 4294967296 + u0 ∧ (∀ Q, Q ≤ 4294967295 → Q * (v1 * 4294967296 + v2) ≤ top * 4294967296 + u0 → Q ≤ q)) ?_ ?_
 ·intro N hN
  simp(disch:=omega)only[Zu,Zv,Zx,Zz,EZ,↓EP,↓reduceIte,Za,Zb,Zc,Zd,Ze,Zf,Zg,Zj,Zk,Zl,Zm,Zn,Zp,Zq,reduceCtorEq]
  refine loop_inv (fun t ρ w' => ∃ q rest, w' = w.drewN m1 ∧ ρ 9 = .int .u64 q ∧ ρ 10 = .int .u64 rest ∧ t = q.toNat ∧ 0 ≤ q ∧ q ≤ 4294967297 ∧ 0 ≤ rest ∧ rest < 4294967296 ∧ q * v1 + rest = top ∧ (∀ Q, Q ≤ 4294967295 → Q * (v1 * 4294967296 + v2) ≤ top * 4294967296 + u0 → Q ≤ q)) (top / v1).toNat
   ⟨top / v1, top % v1, rfl, by simp(disch:=omega)only[Zu,Zv,Zx,Zz,EZ,↓EP,↓reduceIte,Za,Zb,Zc,Zd,Ze,Zf,Zg,Zj,Zk,Zl,Zm,Zn,Zp,Zq,reduceCtorEq], by simp(disch:=omega)only[Zu,Zv,Zx,Zz,EZ,↓EP,↓reduceIte,Za,Zb,Zc,Zd,Ze,Zf,Zg,Zj,Zk,Zl,Zm,Zn,Zp,Zq,reduceCtorEq], rfl, q0, hqtop, r0, by omega, by grind, ?_⟩ ?_
  ·intro Q _ hQ
   by_cases hle : Q ≤ top / v1
   ·exact hle
   ·exfalso
    have h3 := mul_le_r (show top / v1 + 1 ≤ Q by omega) hv
    have h4 : (top / v1 + 1) * (v1 * 4294967296 + v2) = (v1 * (top / v1) + v1) * 4294967296 + (top / v1) * v2 + v2 := by grind
    have h5 := Int.mul_nonneg q0 h2.1
    omega
  rintro t ρ w' hf ⟨q, rest, rfl, h9, h10, rfl, hq0, hq1, hr0, hr1, hqr, hall⟩ N2 hN2
  have p0 : ρ 0 = .slice (some p) (m + 3) c := by rw[hf 0 rfl]; simp(disch:=omega)only[Zu,Zv,Zx,Zz,EZ,↓EP,↓reduceIte,Za,Zb,Zc,Zd,Ze,Zf,Zg,Zj,Zk,Zl,Zm,Zn,Zp,Zq,reduceCtorEq]
  have p1 : ρ 1 = .int .u32 v1 := by rw[hf 1 rfl]; simp(disch:=omega)only[Zu,Zv,Zx,Zz,EZ,↓EP,↓reduceIte,Za,Zb,Zc,Zd,Ze,Zf,Zg,Zj,Zk,Zl,Zm,Zn,Zp,Zq,reduceCtorEq]
  have p2 : ρ 2 = .int .u32 v2 := by rw[hf 2 rfl]; simp(disch:=omega)only[Zu,Zv,Zx,Zz,EZ,↓EP,↓reduceIte,Za,Zb,Zc,Zd,Ze,Zf,Zg,Zj,Zk,Zl,Zm,Zn,Zp,Zq,reduceCtorEq]
  have p7 : ρ 7 = .int .i64 (m + 3 : Nat) := by rw[hf 7 rfl]; simp(disch:=omega)only[Zu,Zv,Zx,Zz,EZ,↓EP,↓reduceIte,Za,Zb,Zc,Zd,Ze,Zf,Zg,Zj,Zk,Zl,Zm,Zn,Zp,Zq,reduceCtorEq]
  clear hf
  have eo2 := or_shl (a := rest) (b := u0) hr0 hr1 b0.1 b0.2
  have down : (4294967296 ≤ q ∨ rest * 4294967296 + u0 < q * v2) → ∀ Q, Q ≤ 4294967295 → Q * (v1 * 4294967296 + v2) ≤ top * 4294967296 + u0 → Q ≤ q - 1 := by
   intro h Q hQ hQ2
   rcases h with h | h
   ·omega
   ·exact guess_down hqr h Q hQ2 hv
  have step : (4294967296 ≤ q ∨ rest * 4294967296 + u0 < q * v2) → 0 < q ∧ (4294967296 ≤ rest + v1 → q - 1 < 4294967296 ∧ (q - 1) * (v1 * 4294967296 + v2) ≤ top * 4294967296 + u0) := by
   intro h
   have hq : 0 < q := by
    rcases h with h | h
    ·omega
    ·by_cases h0 : q = 0
     ·subst h0; omega
     ·omega
   refine ⟨hq, fun hb => ?_⟩
   have h6 : (q - 1) * v1 = top - (rest + v1) := by grind
   have h7 : q - 1 < 4294967296 := by
    by_cases h8 : q - 1 < 4294967296
    ·exact h8
    ·exfalso
     have := mul_le_r (show 4294967296 ≤ q - 1 by omega) (show 0 ≤ v1 by omega)
     have := mul_le_r htop (show (0 : Int) ≤ 4294967296 by decide)
     omega
   refine ⟨h7, ?_⟩
   have h8 := mul_bd (a := q - 1) (b := v2) ⟨by omega, h7⟩ h2
   have h9 : (q - 1) * (v1 * 4294967296 + v2) = ((q - 1) * v1) * 4294967296 + (q - 1) * v2 := by grind
   rw[h9,h6]
   omega
  by_cases hbig : 4294967296 ≤ q
  ·obtain ⟨s1, s2⟩ := step (.inl hbig)
   have s3 := down (.inl hbig)
   by_cases hbr : 4294967296 ≤ rest + v1
   ·obtain ⟨s4, s5⟩ := s2 hbr
    simp(disch:=omega)only[Zu,Zv,Zx,Zz,EZ,↓EP,↓reduceIte,Za,Zb,Zc,Zd,Ze,Zf,Zg,Zj,Zk,Zl,Zm,Zn,Zp,Zq,reduceCtorEq,h9,h10,p0,p1,p2,p7,e3,c0]
    exact hN _ _ ⟨q - 1, m1, rfl, by simp(disch:=omega)only[Zu,Zv,Zx,Zz,EZ,↓EP,↓reduceIte,Za,Zb,Zc,Zd,Ze,Zf,Zg,Zj,Zk,Zl,Zm,Zn,Zp,Zq,reduceCtorEq], by omega, s4, s5, s3⟩
   ·simp(disch:=omega)only[Zu,Zv,Zx,Zz,EZ,↓EP,↓reduceIte,Za,Zb,Zc,Zd,Ze,Zf,Zg,Zj,Zk,Zl,Zm,Zn,Zp,Zq,reduceCtorEq,h9,h10,p0,p1,p2,p7,e3,c0]
    exact hN2 (q - 1).toNat _ _ (by omega) ⟨q - 1, rest + v1, rfl, by simp(disch:=omega)only[Zu,Zv,Zx,Zz,EZ,↓EP,↓reduceIte,Za,Zb,Zc,Zd,Ze,Zf,Zg,Zj,Zk,Zl,Zm,Zn,Zp,Zq,reduceCtorEq], by simp(disch:=omega)only[Zu,Zv,Zx,Zz,EZ,↓EP,↓reduceIte,Za,Zb,Zc,Zd,Ze,Zf,Zg,Zj,Zk,Zl,Zm,Zn,Zp,Zq,reduceCtorEq], rfl, by omega, by omega, by omega, by omega, by grind, s3⟩
  ·have hmb := mul_bd (a := q) (b := v2) ⟨hq0, by omega⟩ h2
   by_cases hgt : rest * 4294967296 + u0 < q * v2
   ·obtain ⟨s1, s2⟩ := step (.inr hgt)
    have s3 := down (.inr hgt)
    by_cases hbr : 4294967296 ≤ rest + v1
    ·obtain ⟨s4, s5⟩ := s2 hbr
     simp(disch:=omega)only[Zu,Zv,Zx,Zz,EZ,↓EP,↓reduceIte,Za,Zb,Zc,Zd,Ze,Zf,Zg,Zj,Zk,Zl,Zm,Zn,Zp,Zq,reduceCtorEq,h9,h10,p0,p1,p2,p7,e3,c0,eo2]
     exact hN _ _ ⟨q - 1, m1, rfl, by simp(disch:=omega)only[Zu,Zv,Zx,Zz,EZ,↓EP,↓reduceIte,Za,Zb,Zc,Zd,Ze,Zf,Zg,Zj,Zk,Zl,Zm,Zn,Zp,Zq,reduceCtorEq], by omega, s4, s5, s3⟩
    ·simp(disch:=omega)only[Zu,Zv,Zx,Zz,EZ,↓EP,↓reduceIte,Za,Zb,Zc,Zd,Ze,Zf,Zg,Zj,Zk,Zl,Zm,Zn,Zp,Zq,reduceCtorEq,h9,h10,p0,p1,p2,p7,e3,c0,eo2]
     exact hN2 (q - 1).toNat _ _ (by omega) ⟨q - 1, rest + v1, rfl, by simp(disch:=omega)only[Zu,Zv,Zx,Zz,EZ,↓EP,↓reduceIte,Za,Zb,Zc,Zd,Ze,Zf,Zg,Zj,Zk,Zl,Zm,Zn,Zp,Zq,reduceCtorEq], by simp(disch:=omega)only[Zu,Zv,Zx,Zz,EZ,↓EP,↓reduceIte,Za,Zb,Zc,Zd,Ze,Zf,Zg,Zj,Zk,Zl,Zm,Zn,Zp,Zq,reduceCtorEq], rfl, by omega, by omega, by omega, by omega, by grind, s3⟩
   ·simp(disch:=omega)only[Zu,Zv,Zx,Zz,EZ,↓EP,↓reduceIte,Za,Zb,Zc,Zd,Ze,Zf,Zg,Zj,Zk,Zl,Zm,Zn,Zp,Zq,reduceCtorEq,h9,h10,p0,p1,p2,p7,e3,c0,eo2]
    refine hN _ _ ⟨q, m1, rfl, by simp(disch:=omega)only[Zu,Zv,Zx,Zz,EZ,↓EP,↓reduceIte,Za,Zb,Zc,Zd,Ze,Zf,Zg,Zj,Zk,Zl,Zm,Zn,Zp,Zq,reduceCtorEq,h9], by omega, by omega, ?_, hall⟩
    have e : q * (v1 * 4294967296 + v2) = (q * v1) * 4294967296 + q * v2 := by grind
    have e2 : q * v1 = top - rest := by omega
    rw[e,e2]
    omega
 ·rintro ρ' w' hf ⟨q, n, rfl, h9, hq0, hq1, hle, hall⟩
  simp(disch:=omega)only[Zu,Zv,Zx,Zz,EZ,↓EP,↓reduceIte,Za,Zb,Zc,Zd,Ze,Zf,Zg,Zj,Zk,Zl,Zm,Zn,Zp,Zq,reduceCtorEq,h9]
  exact hK q n hq0 hq1 hle hall
end Go.Proofs.YtcgplgpdcfocpaaGreatDoor.Spec
end
section
namespace Go.Proofs.YtcgplgpdcfocpaaGreatDoor.Spec
open Go Go.RowKit Go.Proofs Go.Proofs.YtcgplgpdcfocpaaGreatDoor.Eng Go.Proofs.YtcgplgpdcfocpaaGreatDoor.Code Go.Proofs.YtcgplgpdcfocpaaGreatDoor.Big
attribute [local irreducible] callK S.W opsW scrW
theorem win_set {pre win post : List Int} {o i : Nat} {x : Int} (ho : pre.length = o) (hi : i < win.length) : (pre ++ win ++ post).set (o + i) x = pre ++ win.set i x ++ post := by
 rw[List.append_assoc, List.set_append_right _ _ (by omega), show o + i - pre.length = i by omega, List.set_append_left _ _ hi, List.append_assoc]
theorem win_cell {w : World} {b o i : Nat} {pre win post : List Int} (hB : Blk w b (nums .u32 (pre ++ win ++ post))) (ho : pre.length = o) (hi : i < win.length) : w.cell? ⟨b, o + i, none⟩ = some (.int .u32 (at' win i)) := by
 have := hB.numN (j := o + i) (by simp only[List.length_append]; omega)
 rw[this, at_nat, at_nat, List.append_assoc, List.getD_eq_getElem?_getD, List.getElem?_append_right (by omega), List.getElem?_append_left (by omega), show o + i - pre.length = i by omega, ← List.getD_eq_getElem?_getD]
theorem st_win {w : World} {b o i : Nat} {pre win post : List Int} {x : Int} {K : World → Prop} (hB : Blk w b (nums .u32 (pre ++ win ++ post))) (ho : pre.length = o) (hi : i < win.length) (hK : ∀ w', Blk w' b (nums .u32 (pre ++ win.set i x ++ post)) → Fr w w' (fun y => y = b) → K w') : stK 1 ⟨b, o + i, none⟩ (.int .u32 x) w K :=
 st_num hB (by simp only[List.length_append]; omega) fun w' p => hK w' (by have := p.blk; rwa [win_set ho hi] at this) p.fr
theorem ro_at {w : World} {A : Option Addr} {l : List Int} {P : Nat → Prop} {k : Nat} (h : RO .u32 w A l P) (hk : k < l.length) : ∃ p, A = some p ∧ w.cell? (p.add k) = some (.int .u32 (at' l k)) := by
 obtain ⟨p, e, _, hp⟩ := h.rd.get (by rw[nums_length]; omega)
 exact ⟨p, e, hp.numN hk⟩
theorem tp_step {win : List Int} {i : Nat} {x q v cr br u cr' br' : Int} {Wv Vv : Int} (hi : i < win.length) (h : val (win.take i) - (cr + br) * pw i = Wv - q * Vv) (hx : x - br' * 4294967296 = u - (q * v + cr) % 4294967296 - br) (hc : cr' = (q * v + cr) / 4294967296) :
  val ((win.set i x).take (i + 1)) - (cr' + br') * pw (i + 1) = (Wv + u * pw i) - q * (Vv + v * pw i) := by
 rw[val_take_set hi,pw_succ]
 have := Int.mul_ediv_add_emod (q * v + cr) 4294967296
 subst hc
 grind
set_option maxHeartbeats 2000000 in
theorem takes_spec {w : World} {ub o cu m d : Nat} {pre win post v : List Int} {B : Option Addr} {q : Int} (hB : Blk w ub (nums .u32 (pre ++ win ++ post))) (ho : pre.length = o) (hw : win.length = m + 1) (hm : v.length = m) (hr : RO .u32 w B v (fun b => b = ub)) (hW : Lim win) (hV : Lim v) (h40 : m ≤ 1099511627776) (hq : 0 ≤ q ∧ q < 4294967296) (hlo : (q - 1) * val v ≤ val win) (K : Value → World → Prop)
  (hK : ∀ win' w', Blk w' ub (nums .u32 (pre ++ win' ++ post)) → win'.length = m + 1 → Lim win' → Fr w w' (fun b => b = ub) → val win' = val win - q * val v → K (.bool true) w')
  (hK' : ∀ win' w', Blk w' ub (nums .u32 (pre ++ win' ++ post)) → win'.length = m + 1 → Lim win' → Fr w w' (fun b => b = ub) → val win' = val win - (q - 1) * val v → val win' < val v → K (.bool false) w') :
  callK Tryz.prog 109 [.slice (some ⟨ub, o, none⟩) (m + 1) cu, .slice B m d, .int .u32 q] w K := by
 refine call_of Tryz.func109 Code.h109 (by simp[Code.c109]) ?_
 simp(disch:=omega)only[EZ,↓EP,↓reduceIte,Za,Zb,Zc,Zd,Ze,Zf,Zg,Zj,Zk,Zl,Zm,Zn,Zp,Zq,reduceCtorEq,Code.c109]
 refine loop_inv (fun t ρ w2 => ∃ (i : Nat) (x : List Int) (cr br : Int), ρ 15 = .int .i64 i ∧ i ≤ m ∧ t = m - i ∧ ρ 7 = .int .u64 cr ∧ ρ 8 = .int .u32 br ∧ 0 ≤ cr ∧ cr < 4294967296 ∧ 0 ≤ br ∧ br ≤ 1 ∧ Blk w2 ub (nums .u32 (pre ++ x ++ post)) ∧ x.length = m + 1 ∧ Lim x ∧ val (x.take i) - (cr + br) * pw i = val (win.take i) - q * val (v.take i) ∧ (∀ j : Nat, i ≤ j → at' x j = at' win j) ∧ Fr w w2 (fun b => b = ub)) _
  ⟨0, win, 0, 0, by simp(disch:=omega)only[EZ,↓EP,↓reduceIte,Za,Zb,Zc,Zd,Ze,Zf,Zg,Zj,Zk,Zl,Zm,Zn,Zp,Zq,reduceCtorEq], by omega, rfl, by simp(disch:=omega)only[EZ,↓EP,↓reduceIte,Za,Zb,Zc,Zd,Ze,Zf,Zg,Zj,Zk,Zl,Zm,Zn,Zp,Zq,reduceCtorEq], by simp(disch:=omega)only[EZ,↓EP,↓reduceIte,Za,Zb,Zc,Zd,Ze,Zf,Zg,Zj,Zk,Zl,Zm,Zn,Zp,Zq,reduceCtorEq], by omega, by omega, by omega, by omega, hB, hw, hW, by simp[val_nil], fun _ _ => rfl, Fr.refl _ _⟩ ?_
 rintro t ρ w2 hf ⟨i, x, cr, br, h15, hi, rfl, h7, h8, hc0, hc1, hb0, hb1, hB2, hx, hX, hv, hsame, f2⟩ N hN
 have q0 : ρ 0 = .slice (some ⟨ub, o, none⟩) (m + 1) cu := by rw[hf 0 rfl]; simp(disch:=omega)only[EZ,↓EP,↓reduceIte,Za,Zb,Zc,Zd,Ze,Zf,Zg,Zj,Zk,Zl,Zm,Zn,Zp,Zq,reduceCtorEq]
 have q1 : ρ 1 = .slice B m d := by rw[hf 1 rfl]; simp(disch:=omega)only[EZ,↓EP,↓reduceIte,Za,Zb,Zc,Zd,Ze,Zf,Zg,Zj,Zk,Zl,Zm,Zn,Zp,Zq,reduceCtorEq]
 have q2 : ρ 2 = .int .u32 q := by rw[hf 2 rfl]; simp(disch:=omega)only[EZ,↓EP,↓reduceIte,Za,Zb,Zc,Zd,Ze,Zf,Zg,Zj,Zk,Zl,Zm,Zn,Zp,Zq,reduceCtorEq]
 have q14 : ρ 14 = .int .i64 m := by rw[hf 14 rfl]; simp(disch:=omega)only[EZ,↓EP,↓reduceIte,Za,Zb,Zc,Zd,Ze,Zf,Zg,Zj,Zk,Zl,Zm,Zn,Zp,Zq,reduceCtorEq]
 clear hf
 have sub : ∀ (a b c : Int) (w : World), 0 ≤ a ∧ a < 4294967296 → 0 ≤ b ∧ b < 4294967296 → 0 ≤ c ∧ c ≤ 1 → ∃ x b' : Int, 0 ≤ x ∧ x < 4294967296 ∧ 0 ≤ b' ∧ b' ≤ 1 ∧ x - b' * 4294967296 = a - b - c ∧ ∀ K : Value → World → Prop, K (.tuple #[.int .u32 x, .int .u32 b']) w → callK Tryz.prog 121 [.int .u32 a, .int .u32 b, .int .u32 c] w K := by
  intro a b c w ha hb hc
  refine ⟨(a - b - c) % 4294967296, if a < b + c then 1 else 0, by omega, by omega, ?_, ?_, ?_, fun K h => sub32_spec a b c ha hb hc w K h⟩ <;> split <;> omega
 by_cases him : (i : Int) < (m : Int)
 ·obtain ⟨p, rfl, cp⟩ := ro_at (hr.fr f2) (k := i) (by omega)
  have co := win_cell hB2 ho (i := i) (by omega)
  have bv := hV.at i
  have bo := hX.at i
  have hmb := mul_bd hq bv
  have hu := hsame i (Nat.le_refl _)
  obtain ⟨y, b', y0, y1, b0, b1, hy, hsub⟩ := sub (at' x i) ((q * at' v i + cr) % 4294967296) br w2 bo (by omega) ⟨hb0, hb1⟩
  simp(disch:=omega)only[Zu,Zv,Zx,Zz,EZ,↓EP,↓reduceIte,Za,Zb,Zc,Zd,Ze,Zf,Zg,Zj,Zk,Zl,Zm,Zn,Zp,Zq,reduceCtorEq,h15,h7,h8,q0,q1,q2,q14,cp,co,wu32_mod]
  refine hsub _ ?_
  simp(disch:=omega)only[Zu,Zv,Zx,Zz,EZ,↓EP,↓reduceIte,Za,Zb,Zc,Zd,Ze,Zf,Zg,Zj,Zk,Zl,Zm,Zn,Zp,Zq,reduceCtorEq,h15,q0]
  refine st_win hB2 ho (by omega) fun w4 B4 f4 => ?_
  simp(disch:=omega)only[Zu,Zv,Zx,Zz,EZ,↓EP,↓reduceIte,Za,Zb,Zc,Zd,Ze,Zf,Zg,Zj,Zk,Zl,Zm,Zn,Zp,Zq,reduceCtorEq,h15]
  refine hN (m - (i + 1)) _ _ (by omega) ⟨i + 1, _, (q * at' v i + cr) / 4294967296, b', by simp(disch:=omega)only[EZ,↓EP,↓reduceIte,Za,Zb,Zc,Zd,Ze,Zf,Zg,Zj,Zk,Zl,Zm,Zn,Zp,Zq,reduceCtorEq,h15,Int.natCast_add], by omega, rfl, by simp(disch:=omega)only[EZ,↓EP,↓reduceIte,Za,Zb,Zc,Zd,Ze,Zf,Zg,Zj,Zk,Zl,Zm,Zn,Zp,Zq,reduceCtorEq], by simp(disch:=omega)only[EZ,↓EP,↓reduceIte,Za,Zb,Zc,Zd,Ze,Zf,Zg,Zj,Zk,Zl,Zm,Zn,Zp,Zq,reduceCtorEq], by omega, by omega, b0, b1, B4, by rw[List.length_set]; exact hx, hX.set _ y0 y1, ?_, ?_, f2.trans f4 fun _ _ e => e⟩
  ·rw[val_take_succ' win i,val_take_succ' v i,← hu]
   exact tp_step (by omega) hv hy rfl
  ·intro j hj
   rw[at_setO (by omega)]
   exact hsame j (by omega)
 ·have him : i = m := by omega
  subst him
  have co := win_cell hB2 ho (i := i) (by omega)
  have bo := hX.at i
  have hu := hsame i (Nat.le_refl _)
  obtain ⟨y, b', y0, y1, b0, b1, hy, hsub⟩ := sub (at' x i) cr br w2 bo ⟨hc0, hc1⟩ ⟨hb0, hb1⟩
  have hv1 : val (x.set i y) - b' * pw (i + 1) = val win - q * val v := by
   rw[← val_take_all (l := x.set i y) (n := i + 1) (by rw [List.length_set]; omega),val_take_set (by omega),← val_take_all (l := win) (n := i + 1) (by omega),val_take_succ' win i,← val_take_all (l := v) (n := i) (by omega),pw_succ,← hu]
   grind
  simp(disch:=omega)only[Zu,Zv,Zx,Zz,EZ,↓EP,↓reduceIte,Za,Zb,Zc,Zd,Ze,Zf,Zg,Zj,Zk,Zl,Zm,Zn,Zp,Zq,reduceCtorEq,h15,h7,h8,q0,q1,q14,co,wu32_mod]
  refine hsub _ ?_
  simp(disch:=omega)only[Zu,Zv,Zx,Zz,EZ,↓EP,↓reduceIte,Za,Zb,Zc,Zd,Ze,Zf,Zg,Zj,Zk,Zl,Zm,Zn,Zp,Zq,reduceCtorEq,q0]
  refine st_win hB2 ho (by omega) fun w4 B4 f4 => ?_
  have f4 := f2.trans f4 fun _ _ e => e
  have X4 : Lim (x.set i y) := hX.set _ y0 y1
  have l4 : (x.set i y).length = i + 1 := by rw[List.length_set]; exact hx
  generalize x.set i y = x4 at *
  clear hB2 hX hv hsame f2 sub hsub hN co bo hu
  rcases (show b' = 0 ∨ b' = 1 by omega) with hb' | hb'
  ·subst hb'
   simp(disch:=omega)only[Zu,Zv,Zx,Zz,EZ,↓EP,↓reduceIte,Za,Zb,Zc,Zd,Ze,Zf,Zg,Zj,Zk,Zl,Zm,Zn,Zp,Zq,reduceCtorEq]
   exact hK x4 w4 B4 l4 X4 f4 (by omega)
  ·subst hb'
   simp(disch:=omega)only[Zu,Zv,Zx,Zz,EZ,↓EP,↓reduceIte,Za,Zb,Zc,Zd,Ze,Zf,Zg,Zj,Zk,Zl,Zm,Zn,Zp,Zq,reduceCtorEq,q1]
   refine loop_inv (fun t ρ2 w5 => ∃ (k : Nat) (z : List Int) (cc : Int), ρ2 65 = .int .i64 k ∧ k ≤ i ∧ t = i - k ∧ ρ2 11 = .int .u32 cc ∧ 0 ≤ cc ∧ cc ≤ 1 ∧ Blk w5 ub (nums .u32 (pre ++ z ++ post)) ∧ z.length = i + 1 ∧ Lim z ∧ val (z.take k) + cc * pw k = val (x4.take k) + val (v.take k) ∧ (∀ j : Nat, k ≤ j → at' z j = at' x4 j) ∧ Fr w w5 (fun b => b = ub)) _
    ⟨0, x4, 0, by simp(disch:=omega)only[EZ,↓EP,↓reduceIte,Za,Zb,Zc,Zd,Ze,Zf,Zg,Zj,Zk,Zl,Zm,Zn,Zp,Zq,reduceCtorEq], by omega, rfl, by simp(disch:=omega)only[EZ,↓EP,↓reduceIte,Za,Zb,Zc,Zd,Ze,Zf,Zg,Zj,Zk,Zl,Zm,Zn,Zp,Zq,reduceCtorEq], by omega, by omega, B4, l4, X4, by simp[val_nil], fun _ _ => rfl, f4⟩ ?_
   rintro t ρ2 w5 hf ⟨k, z, cc, h65, hk, rfl, h11, hd0, hd1, hB5, hz, hZ, hvz, hsz, f5⟩ N2 hN2
   have p0 : ρ2 0 = .slice (some ⟨ub, o, none⟩) (i + 1) cu := by rw[hf 0 rfl]; simp(disch:=omega)only[EZ,↓EP,↓reduceIte,Za,Zb,Zc,Zd,Ze,Zf,Zg,Zj,Zk,Zl,Zm,Zn,Zp,Zq,reduceCtorEq,q0]
   have p1 : ρ2 1 = .slice B i d := by rw[hf 1 rfl]; simp(disch:=omega)only[EZ,↓EP,↓reduceIte,Za,Zb,Zc,Zd,Ze,Zf,Zg,Zj,Zk,Zl,Zm,Zn,Zp,Zq,reduceCtorEq,q1]
   have p64 : ρ2 64 = .int .i64 i := by rw[hf 64 rfl]; simp(disch:=omega)only[EZ,↓EP,↓reduceIte,Za,Zb,Zc,Zd,Ze,Zf,Zg,Zj,Zk,Zl,Zm,Zn,Zp,Zq,reduceCtorEq,q1]
   clear hf
   by_cases hki : (k : Int) < (i : Int)
   ·obtain ⟨p, rfl, cp⟩ := ro_at (hr.fr f5) (k := k) (by omega)
    have co := win_cell hB5 ho (i := k) (by omega)
    have bv := hV.at k
    have bo := hZ.at k
    have hu := hsz k (Nat.le_refl _)
    simp(disch:=omega)only[Zu,Zv,Zx,Zz,EZ,↓EP,↓reduceIte,Za,Zb,Zc,Zd,Ze,Zf,Zg,Zj,Zk,Zl,Zm,Zn,Zp,Zq,reduceCtorEq,h65,h11,p0,p1,p64,cp,co]
    intro m1
    refine add32_spec _ _ _ bo bv (by omega) _ _ ?_
    simp(disch:=omega)only[Zu,Zv,Zx,Zz,EZ,↓EP,↓reduceIte,Za,Zb,Zc,Zd,Ze,Zf,Zg,Zj,Zk,Zl,Zm,Zn,Zp,Zq,reduceCtorEq,h65,p0]
    intro m2
    refine st_win (hB5.nb (Fr.drewN w5 _ nob)) ho (by omega) fun w6 B6 f6 => ?_
    simp(disch:=omega)only[Zu,Zv,Zx,Zz,EZ,↓EP,↓reduceIte,Za,Zb,Zc,Zd,Ze,Zf,Zg,Zj,Zk,Zl,Zm,Zn,Zp,Zq,reduceCtorEq,h65]
    intro m3
    refine hN2 (i - (k + 1)) _ _ (by omega) ⟨k + 1, _, (at' z k + at' v k + cc) / 4294967296, by simp(disch:=omega)only[EZ,↓EP,↓reduceIte,Za,Zb,Zc,Zd,Ze,Zf,Zg,Zj,Zk,Zl,Zm,Zn,Zp,Zq,reduceCtorEq,h65,Int.natCast_add], by omega, rfl, by simp(disch:=omega)only[EZ,↓EP,↓reduceIte,Za,Zb,Zc,Zd,Ze,Zf,Zg,Zj,Zk,Zl,Zm,Zn,Zp,Zq,reduceCtorEq], by omega, by omega, B6.nb (Fr.drewN w6 m3 nob), by rw[List.length_set]; exact hz, hZ.set _ (by omega) (by omega), ?_, ?_, ((f5.trans (Fr.drewN w5 _ nob) fun _ _ e => e.elim).trans f6 fun _ _ e => e).trans (Fr.drewN w6 m3 nob) fun _ _ e => e.elim⟩
    ·rw[val_take_succ' x4 k,val_take_succ' v k,val_take_set (by omega),pw_succ,← hu]
     have := Int.mul_ediv_add_emod (at' z k + at' v k + cc) 4294967296
     grind
    ·intro j hj
     rw[at_setO (by omega)]
     exact hsz j (by omega)
   ·have hki : k = i := by omega
    subst hki
    have co := win_cell hB5 ho (i := k) (by omega)
    have bo := hZ.at k
    have hu := hsz k (Nat.le_refl _)
    simp(disch:=omega)only[Zu,Zv,Zx,Zz,EZ,↓EP,↓reduceIte,Za,Zb,Zc,Zd,Ze,Zf,Zg,Zj,Zk,Zl,Zm,Zn,Zp,Zq,reduceCtorEq,h65,h11,p0,p1,p64,co,wu32_mod]
    refine st_win hB5 ho (by omega) fun w6 B6 f6 => ?_
    simp(disch:=omega)only[Zu,Zv,Zx,Zz,EZ,↓EP,↓reduceIte,Za,Zb,Zc,Zd,Ze,Zf,Zg,Zj,Zk,Zl,Zm,Zn,Zp,Zq,reduceCtorEq]
    have Z6 : Lim (z.set k ((at' z k + cc) % 4294967296)) := hZ.set _ (by omega) (by omega)
    have l6 : (z.set k ((at' z k + cc) % 4294967296)).length = k + 1 := by rw[List.length_set]; exact hz
    have hb6 := val_bd Z6
    have hb4 := val_bd X4
    rw[l6] at hb6
    rw[l4] at hb4
    have hv6 : val (z.set k ((at' z k + cc) % 4294967296)) + (at' z k + cc) / 4294967296 * pw (k + 1) = val x4 + val v := by
     rw[← val_take_all (l := z.set k ((at' z k + cc) % 4294967296)) (n := k + 1) (by omega),val_take_set (by omega),← val_take_all (l := x4) (n := k + 1) (by omega),val_take_succ' x4 k,← val_take_all (l := v) (n := k) (by omega),pw_succ,← hu]
     have := Int.mul_ediv_add_emod (at' z k + cc) 4294967296
     grind
    have hqv : (q - 1) * val v = q * val v - val v := by grind
    rw[hqv] at hlo
    have he1 : (at' z k + cc) / 4294967296 = 1 := by
     rcases (show (at' z k + cc) / 4294967296 = 0 ∨ (at' z k + cc) / 4294967296 = 1 by omega) with h | h
     ·exfalso; rw[h] at hv6; omega
     ·exact h
    rw[he1] at hv6
    exact hK' _ w6 B6 l6 Z6 (f5.trans f6 fun _ _ e => e) (by rw[hqv]; omega) (by omega)
end Go.Proofs.YtcgplgpdcfocpaaGreatDoor.Spec
end
section
namespace Go.Proofs.YtcgplgpdcfocpaaGreatDoor.Big
open Go Go.Proofs.YtcgplgpdcfocpaaGreatDoor.Eng
theorem mul_r {a b c : Int} (h : a ≤ b) (hc : 0 ≤ c) : a * c ≤ b * c := Int.mul_le_mul_of_nonneg_right h hc
theorem lt_of_mul {a b c : Int} (h : a * c < b * c) (hc : 0 ≤ c) : a < b := by
 by_cases hab : a < b
 ·exact hab
 ·have := mul_r (show b ≤ a by omega) hc
  omega
theorem norm {v : Int} (hv : 0 < v) {y : Nat} (hy : (limbs v).length = y + 1) {s : Nat} (hs : bl (at' (limbs v) y) + s = 32) :
  (limbs (v * 2 ^ s)).length = y + 1 ∧ 2147483648 ≤ at' (limbs (v * 2 ^ s)) y ∧ 2147483648 * pw y ≤ v * 2 ^ s := by
 have hc := limbs_can v
 have h0 : at' (limbs v) y ≠ 0 := by
  rcases hc.2 with e | e
  ·rw[e] at hy; simp at hy
  ·rw[hy] at e; exact e
 have hb := bl_val hc.1 hy h0
 rw[limbs_val (by omega)] at hb
 obtain ⟨k, hk, h1, h2⟩ := bl_pos hv
 have hp : (0 : Int) < 2 ^ s := p2_pos s
 have e1 : k + s = 32 * y + 31 := by omega
 have hlow : (2 : Int) ^ (32 * y + 31) ≤ v * 2 ^ s := by
  rw[← e1,Int.pow_add]; exact mul_r h1 (by omega)
 have hup : v * 2 ^ s < 2 ^ (32 * (y + 1)) := by
  rw[show 32 * (y + 1) = (k + 1) + s by omega, Int.pow_add]
  exact Int.mul_lt_mul_of_pos_right h2 hp
 have hpos : 0 ≤ v * 2 ^ s := Int.mul_nonneg (by omega) (by omega)
 have h31 : (2 : Int) ^ (32 * y + 31) = 2147483648 * pw y := by rw[pw_p2,Int.pow_add,Int.mul_comm]; rfl
 have l1 : (limbs (v * 2 ^ s)).length ≤ y + 1 := (limbs_len hpos).2 (by rw[pw_p2]; exact hup)
 have l2 : ¬ (limbs (v * 2 ^ s)).length ≤ y := fun h => by
  have := (limbs_len hpos).1 h
  have := pw_pos y
  omega
 have l3 : (limbs (v * 2 ^ s)).length = y + 1 := by omega
 refine ⟨l3, ?_, by omega⟩
 have hL := limbs_lim (v * 2 ^ s)
 have e2 := val_take_succ' (limbs (v * 2 ^ s)) y
 rw[val_take_all (by omega),limbs_val hpos] at e2
 have b1 := val_bd (hL.take y)
 rw[List.length_take,Nat.min_eq_left (by omega)] at b1
 have : 2147483648 * pw y < (at' (limbs (v * 2 ^ s)) y + 1) * pw y := by
  rw[Int.add_mul]; omega
 have := lt_of_mul this (by have := pw_pos y; omega)
 omega
theorem top2 (l : List Int) {j : Nat} (h : l.length = j + 2) (hL : Lim l) : ∃ low : Int, 0 ≤ low ∧ low < pw j ∧ val l = (at' l (j + 1 : Nat) * 4294967296 + at' l j) * pw j + low := by
 refine ⟨val (l.take j), (val_bd (hL.take j)).1, ?_, ?_⟩
 ·have := (val_bd (hL.take j)).2
  rwa [List.length_take, Nat.min_eq_left (by omega)] at this
 ·rw[← val_take_all (l := l) (n := j + 2) (by omega),val_take_succ' l (j + 1),val_take_succ' l j,pw_succ]
  grind
theorem top3 (l : List Int) {j : Nat} (h : l.length = j + 3) (hL : Lim l) : ∃ low : Int, 0 ≤ low ∧ low < pw j ∧ val l = ((at' l (j + 2 : Nat) * 4294967296 + at' l (j + 1 : Nat)) * 4294967296 + at' l j) * pw j + low := by
 refine ⟨val (l.take j), (val_bd (hL.take j)).1, ?_, ?_⟩
 ·have := (val_bd (hL.take j)).2
  rwa [List.length_take, Nat.min_eq_left (by omega)] at this
 ·rw[← val_take_all (l := l) (n := j + 3) (by omega), val_take_succ' l (j + 2), val_take_succ' l (j + 1), val_take_succ' l j, show pw (j + 2) = pw j * 4294967296 * 4294967296 by rw [pw_succ, pw_succ], pw_succ]
  grind
theorem knuth {W U3 Ul V2 Vl q : Int} (hW : 0 < W) (hUl : 0 ≤ Ul ∧ Ul < W) (hVl : 0 ≤ Vl ∧ Vl < W) (hV2 : 9223372036854775808 ≤ V2) (hq0 : 0 ≤ q) (hq : q < 4294967296) (hle : q * V2 ≤ U3)
  (hall : ∀ Q, Q ≤ 4294967295 → Q * V2 ≤ U3 → Q ≤ q) (hU : U3 * W + Ul < 4294967296 * (V2 * W + Vl)) :
  (q - 1) * (V2 * W + Vl) ≤ U3 * W + Ul ∧ U3 * W + Ul < (q + 1) * (V2 * W + Vl) := by
 have hWV := mul_r hV2 (show 0 ≤ W by omega)
 have hqV : q * Vl ≤ 4294967295 * W := Int.mul_le_mul (by omega) (by omega) hVl.1 (by omega)
 have h1 := mul_r hle (show 0 ≤ W by omega)
 constructor
 ·have e : (q - 1) * (V2 * W + Vl) = q * V2 * W + q * Vl - (V2 * W + Vl) := by grind
  rw[e]
  omega
 ·by_cases hlt : U3 * W + Ul < (q + 1) * (V2 * W + Vl)
  ·exact hlt
  ·exfalso
   by_cases hb : q = 4294967295
   ·subst hb; omega
   ·have h2 : (q + 1) * V2 ≤ U3 := by
     have h3 : (q + 1) * V2 * W < (U3 + 1) * W := by
      have e : (q + 1) * (V2 * W + Vl) = (q + 1) * V2 * W + (q + 1) * Vl := by grind
      have := Int.mul_nonneg (show 0 ≤ q + 1 by omega) hVl.1
      have h4 : (U3 + 1) * W = U3 * W + W := by grind
      rw[h4]
      omega
     have := lt_of_mul h3 (by omega)
     omega
    have := hall (q + 1) (by omega) h2
    omega
theorem top_le {W u2 rest v1 v2 Vl Ul : Int} (hW : 0 < W) (hUl : 0 ≤ Ul) (hr : 0 ≤ rest) (hVl : Vl < W) (hv2 : v2 < 4294967296)
  (hU : (u2 * 18446744073709551616 + rest) * W + Ul < 4294967296 * ((v1 * 4294967296 + v2) * W + Vl)) : u2 ≤ v1 := by
 by_cases h : u2 ≤ v1
 ·exact h
 ·exfalso
  have h1 := mul_r (show (v1 + 1) * 18446744073709551616 ≤ u2 * 18446744073709551616 + rest by omega) (show 0 ≤ W by omega)
  have h2 := mul_r (show v1 * 4294967296 + v2 + 1 ≤ (v1 + 1) * 4294967296 by omega) (show 0 ≤ W by omega)
  grind
theorem shr_limb {u0 u1 : Int} {s : Nat} (h0 : 0 ≤ u0 ∧ u0 < 4294967296) (h1 : 0 ≤ u1 ∧ u1 < 4294967296) (hs : s < 32) :
  ∃ x : Int, (u1 * 4294967296 + u0) / 2 ^ s % 4294967296 = x ∧ 0 ≤ x ∧ x < 4294967296 ∧ x * 2 ^ s = u0 - u0 % 2 ^ s + u1 % 2 ^ s * 4294967296 := by
 have hp : (0 : Int) < 2 ^ s := p2_pos s
 have hq : (0 : Int) < 2 ^ (32 - s) := p2_pos (32 - s)
 have e : (4294967296 : Int) = 2 ^ s * 2 ^ (32 - s) := by rw[← Int.pow_add, show s + (32 - s) = 32 by omega]; rfl
 have a1 := Int.mul_ediv_add_emod u0 (2 ^ s)
 have a2 := Int.emod_nonneg u0 (show (2 : Int) ^ s ≠ 0 by omega)
 have a3 := Int.emod_lt_of_pos u0 hp
 have b1 := Int.mul_ediv_add_emod u1 (2 ^ s)
 have b2 := Int.emod_nonneg u1 (show (2 : Int) ^ s ≠ 0 by omega)
 have b3 := Int.emod_lt_of_pos u1 hp
 have a4 : u0 / 2 ^ s < 2 ^ (32 - s) := by
  apply Int.ediv_lt_of_lt_mul hp
  rw[Int.mul_comm,← e]; exact h0.2
 have a5 := Int.ediv_nonneg h0.1 (show (0 : Int) ≤ 2 ^ s by omega)
 have b5 := Int.ediv_nonneg h1.1 (show (0 : Int) ≤ 2 ^ s by omega)
 have hx : (u1 * 4294967296 + u0) / 2 ^ s = (u1 / 2 ^ s) * 4294967296 + (u1 % 2 ^ s * 2 ^ (32 - s) + u0 / 2 ^ s) := by
  have e2 : u1 * 4294967296 + u0 = 2 ^ s * (u1 * 2 ^ (32 - s) + u0 / 2 ^ s) + u0 % 2 ^ s := by grind
  rw[e2,Int.mul_add_ediv_left _ _ (by omega),Int.ediv_eq_zero_of_lt a2 a3]
  grind
 have hz0 : 0 ≤ u1 % 2 ^ s * 2 ^ (32 - s) := Int.mul_nonneg b2 (by omega)
 have hz1 := mul_r (show u1 % 2 ^ s + 1 ≤ 2 ^ s by omega) (show (0 : Int) ≤ 2 ^ (32 - s) by omega)
 rw[← e,Int.add_mul,Int.one_mul] at hz1
 refine ⟨u1 % 2 ^ s * 2 ^ (32 - s) + u0 / 2 ^ s, ?_, by omega, by omega, by grind⟩
 rw[hx]
 omega
theorem div_of {a q b r : Int} (h : a = q * b + r) (hr0 : 0 ≤ r) (hr1 : r < b) : a / b = q ∧ a % b = r := by
 constructor
 ·rw[h,Int.mul_comm,Int.mul_add_ediv_left _ _ (by omega),Int.ediv_eq_zero_of_lt hr0 hr1,Int.add_zero]
 ·rw[h,Int.mul_comm,Int.mul_add_emod_self_left,Int.emod_eq_of_lt hr0 hr1]
end Go.Proofs.YtcgplgpdcfocpaaGreatDoor.Big
end
section
namespace Go.Proofs.YtcgplgpdcfocpaaGreatDoor.Big
open Go Go.Proofs.YtcgplgpdcfocpaaGreatDoor.Eng
theorem top_start {o : List Int} {x z j s : Nat} {V L : Int} (ho : o.length = x + 1) (hO : Lim o) (hz : z + (j + 2) = x + 1) (hv : val o = L * 2 ^ s) (hL : L < pw x) (hs : s < 32) (hlow : 2147483648 * pw (j + 1) ≤ V) : val (o.drop z) < V := by
 have h1 := val_split o (k := z) (by omega)
 have h2 := (val_bd (hO.take z)).1
 have hp : (0 : Int) < 2 ^ s := p2_pos s
 have h31 : (2 : Int) ^ s ≤ 2 ^ 31 := p2_mono (by omega)
 have e31 : (2 : Int) ^ 31 = 2147483648 := rfl
 have h3 : L * 2 ^ s < pw x * 2 ^ s := Int.mul_lt_mul_of_pos_right hL hp
 have h4 : pw x * 2 ^ s ≤ pw x * 2147483648 := Int.mul_le_mul_of_nonneg_left (by omega) (by have := pw_pos x; omega)
 have e : pw x = pw z * pw (j + 1) := by rw[← pw_add]; congr 1; omega
 have hz0 := pw_pos z
 have h5 : val (o.drop z) * pw z < 2147483648 * pw (j + 1) * pw z := by
  rw[e] at h4 h3
  have e1 : val (o.drop z) * pw z = pw z * val (o.drop z) := Int.mul_comm _ _
  have e2 : pw z * pw (j + 1) * 2147483648 = 2147483648 * pw (j + 1) * pw z := by grind
  omega
 have := lt_of_mul h5 (by omega)
 omega
theorem div_end {L R U Q : Int} {s : Nat} (hN : U + Q * (R * 2 ^ s) = L * 2 ^ s) (h0 : 0 ≤ U) (hU : U < R * 2 ^ s) : Q = L / R ∧ U = (L % R) * 2 ^ s := by
 have hp : (0 : Int) < 2 ^ s := p2_pos s
 have hr : (L - Q * R) * 2 ^ s = U := by grind
 have r0 : 0 ≤ L - Q * R := by
  by_cases h : 0 ≤ L - Q * R
  ·exact h
  ·have := mul_r (show L - Q * R ≤ -1 by omega) (show (0 : Int) ≤ 2 ^ s by omega)
   omega
 have r1 : L - Q * R < R := lt_of_mul (by rw[hr]; exact hU) (show (0 : Int) ≤ 2 ^ s by omega)
 obtain ⟨d1, d2⟩ := div_of (a := L) (q := Q) (b := R) (r := L - Q * R) (by omega) r0 r1
 exact ⟨d1.symm, by rw[d2,hr]⟩
theorem low_zero {us : List Int} {r : Int} {s : Nat} (h : val us = r * 2 ^ s) (hs : s < 32) : at' us 0 % 2 ^ s = 0 := by
 have e : (4294967296 : Int) = 2 ^ s * 2 ^ (32 - s) := by rw[← Int.pow_add, show s + (32 - s) = 32 by omega]; rfl
 cases us with
 | nil =>
  have : at' [] 0 = 0 := by rw[show (0 : Int) = ((0 : Nat) : Int) by rfl, at_ge (by simp)]; rfl
  rw[this]; simp
 | cons a t =>
  have e0 : at' (a :: t) 0 = a := rfl
  rw[e0]
  rw[val_cons] at h
  have : a = 2 ^ s * (r - 2 ^ (32 - s) * val t) := by grind
  rw[this]
  exact Int.mul_emod_right _ _
theorem rest_step {us rs : List Int} {i s : Nat} {x : Int} (hi : i < rs.length) (h : val (rs.take i) * 2 ^ s = val (us.take i) + (at' us i % 2 ^ s) * pw i)
  (hx : x * 2 ^ s = at' us i - at' us i % 2 ^ s + at' us (i + 1 : Nat) % 2 ^ s * 4294967296) : val ((rs.set i x).take (i + 1)) * 2 ^ s = val (us.take (i + 1)) + (at' us (i + 1 : Nat) % 2 ^ s) * pw (i + 1) := by
 rw[val_take_set hi,val_take_succ',pw_succ]
 have : x * pw i * 2 ^ s = (x * 2 ^ s) * pw i := by grind
 rw[Int.add_mul,this,h,hx]
 grind
theorem rest_end {us rs : List Int} {y s : Nat} {r : Int} (hus : y < us.length) (hU : Lim us) (hrs : rs.length = y) (h : val (rs.take y) * 2 ^ s = val (us.take y) + (at' us y % 2 ^ s) * pw y) (hv : val us = r * 2 ^ s) (hlt : val us < pw y) : val rs = r := by
 have hp : (0 : Int) < 2 ^ s := p2_pos s
 have h1 := val_split us (k := y) (by omega)
 have b1 := val_bd (hU.take y)
 have b2 := val_bd (hU.drop y)
 have hy := pw_pos y
 have h0 : val (us.drop y) = 0 := by
  by_cases h : val (us.drop y) = 0
  ·exact h
  ·have := mul_r (show 1 ≤ val (us.drop y) by omega) (show (0 : Int) ≤ pw y by omega)
   have e3 : val (us.drop y) * pw y = pw y * val (us.drop y) := Int.mul_comm _ _
   omega
 have e1 : at' us y = 0 := by
  rw[List.drop_eq_getElem_cons hus,val_cons] at h0
  have b3 := hU.at y
  have b4 := val_bd (hU.drop (y + 1))
  have e2 : us[y] = at' us y := (at_get hus).symm
  rw[e2] at h0
  omega
 rw[e1,Int.zero_emod,Int.zero_mul,Int.add_zero,val_take_all (by omega)] at h
 rw[h0] at h1
 have : val rs * 2 ^ s = r * 2 ^ s := by rw[h,← hv,h1]; omega
 exact Int.eq_of_mul_eq_mul_right (by omega) this
theorem guess_known {win V : List Int} {j : Nat} (hw : win.length = j + 3) (hW : Lim win) (hV : V.length = j + 2) (hVl : Lim V) (hbig : 2147483648 ≤ at' V (j + 1 : Nat)) (hlt : val win < 4294967296 * val V) :
  at' win (j + 2 : Nat) ≤ at' V (j + 1 : Nat) ∧ ∀ q : Int, 0 ≤ q → q < 4294967296 →
   q * (at' V (j + 1 : Nat) * 4294967296 + at' V j) ≤ (at' win (j + 2 : Nat) * 4294967296 + at' win (j + 1 : Nat)) * 4294967296 + at' win j →
   (∀ Q, Q ≤ 4294967295 → Q * (at' V (j + 1 : Nat) * 4294967296 + at' V j) ≤ (at' win (j + 2 : Nat) * 4294967296 + at' win (j + 1 : Nat)) * 4294967296 + at' win j → Q ≤ q) →
   (q - 1) * val V ≤ val win ∧ val win < (q + 1) * val V := by
 obtain ⟨lw, w0, w1, hw3⟩ := top3 win hw hW
 obtain ⟨lv, v0, v1, hv2⟩ := top2 V hV hVl
 have hp := pw_pos j
 have a1 := hW.at (j + 1 : Nat)
 have a0 := hW.at (j : Nat)
 have b0 := hVl.at (j : Nat)
 refine ⟨?_, fun q q0 q1 hle hall => ?_⟩
 ·refine top_le (W := pw j) (rest := at' win (j + 1 : Nat) * 4294967296 + at' win j) (v2 := at' V j) (Vl := lv) (Ul := lw) hp w0 (by omega) v1 (by omega) ?_
  rw[← hv2]
  refine Int.lt_of_le_of_lt ?_ hlt
  rw[hw3]
  grind
 ·rw[hw3,hv2]
  refine knuth hp ⟨w0, w1⟩ ⟨v0, v1⟩ ?_ q0 q1 hle hall ?_
  ·omega
  ·rw[← hv2,← hw3]; exact hlt
end Go.Proofs.YtcgplgpdcfocpaaGreatDoor.Big
end
section
namespace Go.Proofs.YtcgplgpdcfocpaaGreatDoor.Spec
open Go Go.RowKit Go.Proofs Go.Proofs.YtcgplgpdcfocpaaGreatDoor.Eng Go.Proofs.YtcgplgpdcfocpaaGreatDoor.Code Go.Proofs.YtcgplgpdcfocpaaGreatDoor.Big
attribute [local irreducible] callK S.W opsW scrW
theorem subA_lit {b c k : Nat} (h : c ≠ k) : subA (some ⟨b, 0, none⟩) c k 1 = some ⟨b, k, none⟩ := by
 unfold subA
 rw[if_neg h]
 simp[Addr.add_lit]
theorem three (us : List Int) (k n : Nat) : us = us.take k ++ (us.drop k).take n ++ us.drop (k + n) := by
 rw[← List.take_add,List.take_append_drop]
theorem blk_ro {w : World} {b : Nat} {l : List Int} {y : Nat} (hB : Blk w b (nums .u32 l)) {P : Nat → Prop} (hp : ¬ P b) : RO .u32 w (some ⟨b, 0, none⟩) (l.take y) P :=
 .inr ⟨_, rfl, hB.lt, hp, by rw[← nums_take]; exact hB.cellsAt0.take y⟩
theorem val_win {us : List Int} {k y x : Nat} (hx : us.length = x + 1) (hk : k + y ≤ x) (hU : Lim us) {V : Int} (hV : V < pw y) (hdr : val (us.drop (k + 1)) < V) :
  val (us.drop (k + (y + 1))) = 0 ∧ val ((us.drop k).take (y + 1)) = val (us.drop k) ∧ val (us.drop k) < 4294967296 * V ∧ val us = val (us.take k) + pw k * val (us.drop k) := by
 have e1 := val_drop_at us (k := k) (by omega)
 have b1 := hU.at k
 have e2 := val_split (us.drop k) (k := y + 1) (by simp; omega)
 rw[List.drop_drop] at e2
 have b2 := val_bd (hU.drop (k + (y + 1)))
 have b3 := val_bd ((hU.drop k).take (y + 1))
 have hlt : val (us.drop k) < 4294967296 * V := by omega
 have h0 : val (us.drop (k + (y + 1))) = 0 := by
  by_cases h : val (us.drop (k + (y + 1))) = 0
  ·exact h
  ·exfalso
   have := mul_r (show 1 ≤ val (us.drop (k + (y + 1))) by omega) (show (0 : Int) ≤ pw (y + 1) by have := pw_pos (y + 1); omega)
   have e3 : val (us.drop (k + (y + 1))) * pw (y + 1) = pw (y + 1) * val (us.drop (k + (y + 1))) := Int.mul_comm _ _
   rw[e3,pw_succ] at this
   rw[pw_succ] at e2
   omega
 refine ⟨h0, ?_, hlt, val_split us (by omega)⟩
 rw[h0] at e2
 omega
theorem div_step {us win' qs : List Int} {k yy x : Nat} {V N dg : Int} (hus : us.length = x + 1) (hk : k + yy ≤ x) (hw : win'.length = yy + 1) (hpost : val (us.drop (k + (yy + 1))) = 0) (hwin : val ((us.drop k).take (yy + 1)) = val (us.drop k)) (hsplit : val us = val (us.take k) + pw k * val (us.drop k))
  (hv : val us + val (qs.drop (k + 1)) * pw (k + 1) * V = N) (hval : val win' = val ((us.drop k).take (yy + 1)) - dg * V) (hq : k < qs.length) :
  (us.take k ++ win' ++ us.drop (k + (yy + 1))).length = x + 1 ∧ val (us.take k ++ win' ++ us.drop (k + (yy + 1))) + val ((qs.set k dg).drop k) * pw k * V = N ∧ val ((us.take k ++ win' ++ us.drop (k + (yy + 1))).drop k) = val win' := by
 have hk' : (us.take k).length = k := by simp; omega
 refine ⟨by simp; omega, ?_, ?_⟩
 ·rw[drop_set hq,List.append_assoc,val_app,val_app,hk',hpost,hval,hwin,← hv,hsplit,pw_succ]
  grind
 ·rw[List.append_assoc,List.drop_append_of_le_length (by omega),List.drop_of_length_le (by omega),List.nil_append,val_app,hpost]
  omega
structure PD (w0 w : World) (ub vb qb : Nat) (us vs qs : List Int) : Prop where
 bu : Blk w ub (nums .u32 us)
 bv : Blk w vb (nums .u32 vs)
 bq : Blk w qb (nums .u32 qs)
 fr : Fr w0 w nob
theorem PD.nb {w0 w w' : World} {ub vb qb : Nat} {us vs qs : List Int} (h : PD w0 w ub vb qb us vs qs) (f : Fr w w' nob) : PD w0 w' ub vb qb us vs qs :=
 ⟨h.bu.nb f, h.bv.nb f, h.bq.nb f, h.fr.nb f⟩
set_option maxHeartbeats 4000000 in
theorem parts_spec {w : World} {A B : Option Addr} {n m c d : Nat} {l r : List Int} (hn : l.length = n) (hm : r.length = m) (hl : Rd w A (nums .u32 l)) (hr : Rd w B (nums .u32 r)) (hL : Lim l) (hR : Lim r) (hc : n ≤ c) (hd : m ≤ d) (hn' : n ≤ 549755813888) (hm' : m ≤ 549755813888) (hpos : 0 < val r) (K : Value → World → Prop)
  (hK : ∀ u v w', Gw .u32 w w' u (limbs (val l / val r)) → Gw .u32 w w' v (limbs (val l % val r)) → (∀ b, blkOf u = some b → blkOf v ≠ some b) → K (.tuple #[u, v]) w') : callK Tryz.prog 81 [.slice A n c, .slice B m d] w K := by
 refine call_of Tryz.func81 Code.h81 (by simp[Code.c81]) ?_
 have hvl := (val_bd hL).1
 simp(disch:=omega)only[EZ,↓EP,↓reduceIte,Za,Zb,Zc,Zd,Ze,Zf,Zg,Zj,Zk,Zl,Zm,Zn,Zp,Zq,reduceCtorEq,Code.c81]
 refine cut_spec hn hl hL hc (by omega) _ fun x hx he hlen => ?_
 simp(disch:=omega)only[EZ,↓EP,↓reduceIte,Za,Zb,Zc,Zd,Ze,Zf,Zg,Zj,Zk,Zl,Zm,Zn,Zp,Zq,reduceCtorEq]
 refine cut_spec hm hr hR hd (by omega) _ fun y hy he2 hlen2 => ?_
 have rl := hl.take x
 have rr := hr.take y
 rw[he] at rl
 rw[he2] at rr
 have vl := limbs_val hvl
 have vr := limbs_val (v := val r) (by omega)
 have LL := limbs_lim (val l)
 have LR := limbs_lim (val r)
 simp(disch:=omega)only[EZ,↓EP,↓reduceIte,Za,Zb,Zc,Zd,Ze,Zf,Zg,Zj,Zk,Zl,Zm,Zn,Zp,Zq,reduceCtorEq]
 refine cmp_spec hlen.symm hlen2.symm rl rr LL LR (by omega) (by omega) (by omega) (by omega) _ fun w1 f1 => ?_
 rw[vl,vr]
 have rl := rl.nb f1
 have rr := rr.nb f1
 by_cases hlt : val l < val r
 ·rw[cmp_lt hlt]
  simp(disch:=omega)only[EZ,↓EP,↓reduceIte,Za,Zb,Zc,Zd,Ze,Zf,Zg,Zj,Zk,Zl,Zm,Zn,Zp,Zq,reduceCtorEq]
  refine trim_spec hlen.symm rl LL (by omega) (by omega) _ fun v w2 g2 => ?_
  rw[vl] at g2
  simp(disch:=omega)only[EZ,↓EP,↓reduceIte,Za,Zb,Zc,Zd,Ze,Zf,Zg,Zj,Zk,Zl,Zm,Zn,Zp,Zq,reduceCtorEq]
  obtain ⟨d1, d2⟩ := div_of (a := val l) (q := 0) (b := val r) (r := val l) (by omega) hvl hlt
  refine hK _ _ _ ?_ (by rw[d2]; exact ⟨g2.sl, fun b e => Nat.le_trans f1.size (g2.up b e), f1.nb g2.fr⟩) (fun b e => by cases e)
  rw[d1,limbs_zero]
  exact ⟨Sl.nil _ _, fun b e => (by cases e), f1.nb g2.fr⟩
 have hcmp : 0 ≤ cmpI (val l) (val r) := by unfold cmpI; rw[if_neg hlt]; split <;> omega
 generalize cmpI (val l) (val r) = cm at *
 have hy0 : y ≠ 0 := by
  rintro rfl
  rw[List.length_eq_zero_iff.1 hlen2.symm] at vr
  rw[val_nil] at vr
  omega
 have hyx : y ≤ x := by
  by_cases h : y ≤ x
  ·exact h
  ·have := (limbs_can (val l)).lt_of_len (limbs_can (val r)) (by omega)
   omega
 obtain ⟨p, rfl, _, hp⟩ := rr.get (by rw[nums_length]; omega)
 by_cases hy1 : y = 1
 ·subst hy1
  have cp := hp.numN (j := 0) (by omega)
  have cp' : w1.cell? p = some (.int .u32 (at' (limbs (val r)) 0)) := by rw[add_zero'] at cp; exact cp
  have et : at' (limbs (val r)) 0 = val r := by
   obtain ⟨a, ha⟩ := List.length_eq_one_iff.1 hlen2.symm
   have := vr
   rw[ha,val_one] at this
   rw[ha,← this]; rfl
  have bt := LR.at 0
  simp(disch:=omega)only[EZ,↓EP,↓reduceIte,Za,Zb,Zc,Zd,Ze,Zf,Zg,Zj,Zk,Zl,Zm,Zn,Zp,Zq,reduceCtorEq,cp',et,add_zero']
  refine short_spec hlen.symm rl LL (by omega) ⟨hpos, by rw[← et]; exact bt.2⟩ _ fun u v w2 g1 g2 hne => ?_
  rw[vl] at g1 g2
  simp(disch:=omega)only[EZ,↓EP,↓reduceIte,Za,Zb,Zc,Zd,Ze,Zf,Zg,Zj,Zk,Zl,Zm,Zn,Zp,Zq,reduceCtorEq]
  exact hK u v w2 ⟨g1.sl, fun b e => Nat.le_trans f1.size (g1.up b e), f1.nb g1.fr⟩ ⟨g2.sl, fun b e => Nat.le_trans f1.size (g2.up b e), f1.nb g2.fr⟩ hne
 obtain ⟨j, hj⟩ : ∃ j, y = j + 2 := ⟨y - 2, by omega⟩
 have cp := hp.numN (j := j + 1) (by omega)
 have e1 : (y : Int) - 1 = ((j + 1 : Nat) : Int) := by omega
 have bt := LR.at (j + 1 : Nat)
 have hb32 : bl (at' (limbs (val r)) (j + 1 : Nat)) ≤ 32 := (bl_le bt.1).2 (by omega)
 have hy1' : (y : Int) = 1 → False := fun h => by omega
 simp(disch:=omega)only[EZ,↓EP,↓reduceIte,Za,Zb,Zc,Zd,Ze,Zf,Zg,Zj,Zk,Zl,Zm,Zn,Zp,Zq,reduceCtorEq,e1,cp]
 refine lz32_spec _ bt _ _ ?_
 obtain ⟨htop0, _⟩ := can_top (v := val r) (k := j + 1) (by omega) (by omega)
 obtain ⟨kb, hkb, _, _⟩ := bl_pos (v := at' (limbs (val r)) (j + 1 : Nat)) (by omega)
 obtain ⟨s, hs⟩ : ∃ s : Nat, bl (at' (limbs (val r)) (j + 1 : Nat)) + s = 32 := ⟨32 - bl (at' (limbs (val r)) (j + 1 : Nat)), by omega⟩
 have hs32 : s < 32 := by omega
 have es : (32 : Int) - (bl (at' (limbs (val r)) (j + 1 : Nat)) : Int) = s := by omega
 obtain ⟨nl, nt, nlow⟩ := norm hpos (y := j + 1) (by omega) hs
 have hp2 : (0 : Int) < 2 ^ s := p2_pos s
 rw[es]
 simp(disch:=omega)only[EZ,↓EP,↓reduceIte,Za,Zb,Zc,Zd,Ze,Zf,Zg,Zj,Zk,Zl,Zm,Zn,Zp,Zq,reduceCtorEq]
 refine shifted_spec hlen.symm rl LL (by omega) hs32 _ fun o w2 B2 ho hO hvo f2 => ?_
 rw[vl] at hvo
 simp(disch:=omega)only[EZ,↓EP,↓reduceIte,Za,Zb,Zc,Zd,Ze,Zf,Zg,Zj,Zk,Zl,Zm,Zn,Zp,Zq,reduceCtorEq]
 refine shifted_spec hlen2.symm (rr.nb f2) LR (by omega) hs32 _ fun o2 w3 B3 ho2 hO2 hvo2 f3 => ?_
 rw[vr] at hvo2
 have sz0 := B2.lt
 have B2 := B2.nb f3
 have sz1 := f1.size
 have sz2 := B2.lt
 have sz3 := B3.lt
 have f13 := (f1.nb f2).nb f3
 have hV0 : 0 < val r * 2 ^ s := Int.mul_pos hpos hp2
 have hVlt : val r * 2 ^ s < pw y := by
  have := (limbs_len (v := val r * 2 ^ s) (by omega) (k := y)).1 (by omega)
  exact this
 have VL := limbs_lim (val r * 2 ^ s)
 have nl' : 2147483648 ≤ at' (limbs (val r * 2 ^ s)) (j + 1 : Nat) := nt
 have hvV := limbs_val (v := val r * 2 ^ s) (by omega)
 generalize hV : val r * 2 ^ s = V at *
 generalize hub : w1.heap.size = ub at *
 generalize hvb : w2.heap.size = vb at *
 simp(disch:=omega)only[EZ,↓EP,↓reduceIte,Za,Zb,Zc,Zd,Ze,Zf,Zg,Zj,Zk,Zl,Zm,Zn,Zp,Zq,reduceCtorEq]
 refine cut_spec ho2 (blk_rd B3) hO2 (Nat.le_refl _) (by omega) _ fun yy hyy hcut hlcut => ?_
 rw[hvo2] at hcut hlcut
 obtain rfl : yy = y := by omega
 clear he he2 hl hr hp cp rl rr bt hb32 hlt hcmp
 obtain ⟨z, hz⟩ : ∃ z : Nat, x + 1 - yy = z ∧ z + yy = x + 1 := ⟨_, rfl, by omega⟩
 have eq1 : ((x + 1 : Nat) : Int) - (yy : Int) = (z : Int) := by omega
 simp(disch:=omega)only[EZ,↓EP,↓reduceIte,Za,Zb,Zc,Zd,Ze,Zf,Zg,Zj,Zk,Zl,Zm,Zn,Zp,Zq,reduceCtorEq,eq1]
 refine al_k (nums .u32 (List.replicate z 0)) (by rw[madeCells_list,nums_replicate]) fun w4 n4 => ?_
 have P4 : PD w w4 ub vb w3.heap.size o o2 (List.replicate z 0) := ⟨B2.nb (n4.fr nob), B3.nb (n4.fr nob), n4.blk, f13.nb (n4.fr nob)⟩
 have htop : val (o.drop z) < V := top_start (L := val l) ho hO (j := j) (by omega) hvo ((limbs_len hvl).1 (by omega)) hs32 nlow
 have hVlen : (limbs V).length = j + 2 := by omega
 simp(disch:=omega)only[EZ,↓EP,↓reduceIte,Za,Zb,Zc,Zd,Ze,Zf,Zg,Zj,Zk,Zl,Zm,Zn,Zp,Zq,reduceCtorEq,eq1]
 refine loop_inv (fun t ρ w5 => ∃ us qs : List Int, ρ 10 = .int .i64 ((t : Int) - 1) ∧ t ≤ z ∧ PD w w5 ub vb w3.heap.size us o2 qs ∧ us.length = x + 1 ∧ Lim us ∧ qs.length = z ∧ Lim qs ∧ val us + val (qs.drop t) * pw t * V = val l * 2 ^ s ∧ val (us.drop t) < V) z
  ⟨o, List.replicate z 0, by simp(disch:=omega)only[EZ,↓EP,↓reduceIte,Za,Zb,Zc,Zd,Ze,Zf,Zg,Zj,Zk,Zl,Zm,Zn,Zp,Zq,reduceCtorEq,eq1], by omega, P4, ho, hO, by simp, Lim.zeros _, by simp[val_nil,hvo], htop⟩ ?_
 rintro t ρ w5 hf ⟨us, qs, h10, htz, P5, hus, hU, hqs, hQ, hv, hdr⟩ N hN
 have q4 : ρ 4 = .slice (some ⟨w3.heap.size, 0, none⟩) z z := by rw[hf 4 rfl]; simp(disch:=omega)only[EZ,↓EP,↓reduceIte,Za,Zb,Zc,Zd,Ze,Zf,Zg,Zj,Zk,Zl,Zm,Zn,Zp,Zq,reduceCtorEq,eq1]
 have q6 : ρ 6 = .int .i64 s := by rw[hf 6 rfl]; simp(disch:=omega)only[EZ,↓EP,↓reduceIte,Za,Zb,Zc,Zd,Ze,Zf,Zg,Zj,Zk,Zl,Zm,Zn,Zp,Zq,reduceCtorEq]
 have q7 : ρ 7 = .slice (some ⟨ub, 0, none⟩) (x + 1) (x + 1) := by rw[hf 7 rfl]; simp(disch:=omega)only[EZ,↓EP,↓reduceIte,Za,Zb,Zc,Zd,Ze,Zf,Zg,Zj,Zk,Zl,Zm,Zn,Zp,Zq,reduceCtorEq]
 have q8 : ρ 8 = .slice (some ⟨vb, 0, none⟩) yy (yy + 1) := by rw[hf 8 rfl]; simp(disch:=omega)only[EZ,↓EP,↓reduceIte,Za,Zb,Zc,Zd,Ze,Zf,Zg,Zj,Zk,Zl,Zm,Zn,Zp,Zq,reduceCtorEq]
 have q9 : ρ 9 = .int .i64 yy := by rw[hf 9 rfl]; simp(disch:=omega)only[EZ,↓EP,↓reduceIte,Za,Zb,Zc,Zd,Ze,Zf,Zg,Zj,Zk,Zl,Zm,Zn,Zp,Zq,reduceCtorEq]
 clear hf
 cases t with
 | succ k =>
  have h10' : ρ 10 = .int .i64 k := by rw[h10]; congr 1; omega
  obtain ⟨hpost, hwin, hWV, hsplit⟩ := val_win (V := V) hus (show k + yy ≤ x by omega) hU hVlt hdr
  have hwl : ((us.drop k).take (yy + 1)).length = j + 3 := by simp; omega
  have hWL : Lim ((us.drop k).take (yy + 1)) := (hU.drop k).take _
  obtain ⟨hg1, hg2⟩ := guess_known (j := j) hwl hWL hVlen VL nl' (by rw[hwin,hvV]; exact hWV)
  have cv1 := P5.bv.numN (j := j + 1) (by omega)
  have cv0 := P5.bv.numN (j := j) (by omega)
  have ev1 : at' o2 (j + 1 : Nat) = at' (limbs V) (j + 1 : Nat) := by rw[← hcut,at_take (by omega)]
  have ev0 : at' o2 (j : Nat) = at' (limbs V) (j : Nat) := by rw[← hcut,at_take (by omega)]
  rw[ev1] at cv1
  rw[ev0] at cv0
  have ey1 : (yy : Int) - 1 = ((j + 1 : Nat) : Int) := by omega
  have ey2 : (yy : Int) - 2 = ((j : Nat) : Int) := by omega
  have ek : ((k : Int) + (yy : Int) + 1).toNat = (k + j) + 3 := by omega
  have ek2 : (k + j) + 3 - k = yy + 1 := by omega
  have eus : us.take ((k + j) + 3) = us.take k ++ (us.drop k).take (yy + 1) := by rw[← List.take_add]; congr 1; omega
  have eat : ∀ i : Nat, i < yy + 1 → at' (us.take ((k + j) + 3)) (k + i : Nat) = at' ((us.drop k).take (yy + 1)) i := fun i hi => by
   rw[at_take (by omega),at_take (by omega),at_drop]
  have b1 := VL.at (j + 1 : Nat)
  have b0 := VL.at (j : Nat)
  have ru : Rd w5 (some ⟨ub, 0, none⟩) (nums .u32 (us.take ((k + j) + 3))) := (blk_rd P5.bu).take _
  simp(disch:=omega)only[Zu,Zv,Zx,Zz,EZ,↓EP,↓reduceIte,Za,Zb,Zc,Zd,Ze,Zf,Zg,Zj,Zk,Zl,Zm,Zn,Zp,Zq,reduceCtorEq,h10',q7,q8,q9,ey1,ey2,cv1,cv0,ek]
  intro m1
  refine guess_spec (m := k + j) (u := us.take ((k + j) + 3)) (by simp; omega) (ru.nb (Fr.drewN w5 _ nob)) (hU.take _) (by omega) ⟨nl', b1.2⟩ b0 ?_ _ fun q n1 q0 q1' hle hall => ?_
  ·have := eat (j + 2) (by omega)
   rw[show k + (j + 2) = k + j + 2 by omega] at this
   rw[this]; exact hg1
  have e2 := eat (j + 2) (by omega)
  have e1 := eat (j + 1) (by omega)
  have e0 := eat j (by omega)
  rw[show k + (j + 2) = k + j + 2 by omega] at e2
  rw[show k + (j + 1) = k + j + 1 by omega] at e1
  rw[e2,e1,e0] at hle hall
  obtain ⟨hlo, hhi⟩ := hg2 q q0 q1' hle hall
  simp(disch:=omega)only[Zu,Zv,Zx,Zz,EZ,↓EP,↓reduceIte,Za,Zb,Zc,Zd,Ze,Zf,Zg,Zj,Zk,Zl,Zm,Zn,Zp,Zq,reduceCtorEq,h10',q7,q8,q9,ek]
  intro m2
  have hlo' : (q - 1) * val (limbs V) ≤ val ((us.drop k).take (yy + 1)) := hlo
  rw[hvV] at hhi
  simp(disch:=omega)only[Zu, Zv, Zx, Zz, EO, ↓EP, EQ, EM, ↓reduceIte, Za, Zb, Zc, Zd, Ze, Zf, Zg, Zj, Zk, Zl, Zm, Zn, Zp, Zq, reduceCtorEq, W_join, h10', q7, q8, q9, ek, ek2, subA_lit (show x + 1 ≠ k by omega)]
  have P6 := P5.nb (Fr.drewN w5 (1 + m1 + n1 + m2) nob)
  have ro : RO .u32 w5 (some ⟨vb, 0, none⟩) (limbs V) (fun b => b = ub) := by rw[← hcut]; exact blk_ro P5.bv (by omega)
  refine takes_spec (pre := us.take k) (win := (us.drop k).take (yy + 1)) (post := us.drop (k + (yy + 1))) (o := k) (m := yy) (by rw[← three us k (yy + 1)]; exact P6.bu) (by simp; omega) (by omega) (by omega) (ro.fr (Fr.drewN w5 _ _)) hWL VL (by omega) ⟨q0, q1'⟩ hlo' _ (fun win' w7 B7 hl7 L7 f7 hv7 => ?_) (fun win' w7 B7 hl7 L7 f7 hv7 hlt7 => ?_)
  ·rw[hvV] at hv7
   have P7 : PD w w7 ub vb w3.heap.size (us.take k ++ win' ++ us.drop (k + (yy + 1))) o2 qs := ⟨B7, P6.bv.fr f7 (by omega), P6.bq.fr f7 (by omega), P6.fr.own f7 fun b e => by omega⟩
   obtain ⟨d1, d2, d3⟩ := div_step (dg := q) hus (show k + yy ≤ x by omega) hl7 hpost hwin hsplit hv hv7 (by omega)
   simp(disch:=omega)only[Zu,Zv,Zx,Zz,EZ,↓EP,↓reduceIte,Za,Zb,Zc,Zd,Ze,Zf,Zg,Zj,Zk,Zl,Zm,Zn,Zp,Zq,reduceCtorEq,q4,h10']
   refine st_num P7.bq (by omega) fun w8 p8 => ?_
   simp(disch:=omega)only[Zu,Zv,Zx,Zz,EZ,↓EP,↓reduceIte,Za,Zb,Zc,Zd,Ze,Zf,Zg,Zj,Zk,Zl,Zm,Zn,Zp,Zq,reduceCtorEq,h10']
   refine hN k _ _ (by omega) ⟨_, _, by simp(disch:=omega)only[Zu,Zv,Zx,Zz,EZ,↓EP,↓reduceIte,Za,Zb,Zc,Zd,Ze,Zf,Zg,Zj,Zk,Zl,Zm,Zn,Zp,Zq,reduceCtorEq], by omega, ⟨p8.keep (by omega) P7.bu, p8.keep (by omega) P7.bv, p8.blk, P7.fr.own p8.fr fun b e => by omega⟩, d1, ((hU.take _).app L7).app (hU.drop _), by simpa using hqs, hQ.set _ q0 q1', d2, ?_⟩
   rw[d3,hv7]
   have : (q + 1) * V = q * V + V := by grind
   omega
  ·rw[hvV] at hv7 hlt7
   have P7 : PD w w7 ub vb w3.heap.size (us.take k ++ win' ++ us.drop (k + (yy + 1))) o2 qs := ⟨B7, P6.bv.fr f7 (by omega), P6.bq.fr f7 (by omega), P6.fr.own f7 fun b e => by omega⟩
   obtain ⟨d1, d2, d3⟩ := div_step (dg := q - 1) hus (show k + yy ≤ x by omega) hl7 hpost hwin hsplit hv hv7 (by omega)
   have hq1 : 1 ≤ q := by
    by_cases h : 1 ≤ q
    ·exact h
    ·exfalso
     have hq0 : q = 0 := by omega
     subst hq0
     have := (val_bd hWL).1
     omega
   simp(disch:=omega)only[Zu,Zv,Zx,Zz,EZ,↓EP,↓reduceIte,Za,Zb,Zc,Zd,Ze,Zf,Zg,Zj,Zk,Zl,Zm,Zn,Zp,Zq,reduceCtorEq,q4,h10']
   refine st_num P7.bq (by omega) fun w8 p8 => ?_
   simp(disch:=omega)only[Zu,Zv,Zx,Zz,EZ,↓EP,↓reduceIte,Za,Zb,Zc,Zd,Ze,Zf,Zg,Zj,Zk,Zl,Zm,Zn,Zp,Zq,reduceCtorEq,h10']
   refine hN k _ _ (by omega) ⟨_, _, by simp(disch:=omega)only[Zu,Zv,Zx,Zz,EZ,↓EP,↓reduceIte,Za,Zb,Zc,Zd,Ze,Zf,Zg,Zj,Zk,Zl,Zm,Zn,Zp,Zq,reduceCtorEq], by omega, ⟨p8.keep (by omega) P7.bu, p8.keep (by omega) P7.bv, p8.blk, P7.fr.own p8.fr fun b e => by omega⟩, d1, ((hU.take _).app L7).app (hU.drop _), by simpa using hqs, hQ.set _ (by omega) (by omega), d2, ?_⟩
   rw[d3]
   exact hlt7
 | zero =>
  rw[List.drop_zero,pw_zero,Int.mul_one] at hv
  rw[List.drop_zero] at hdr
  rw[← hV] at hv hdr
  obtain ⟨hq, hu⟩ := div_end hv (val_bd hU).1 hdr
  have hr0 := Int.emod_nonneg (val l) (show val r ≠ 0 by omega)
  rw[hV] at hdr
  have hlow := low_zero hu hs32
  simp(disch:=omega)only[EZ,↓EP,↓reduceIte,Za,Zb,Zc,Zd,Ze,Zf,Zg,Zj,Zk,Zl,Zm,Zn,Zp,Zq,reduceCtorEq,h10,q9,Int.natCast_zero]
  refine al_k (nums .u32 (List.replicate yy 0)) (by rw[madeCells_list,nums_replicate]) fun w6 n6 => ?_
  have P6 := P5.nb (n6.fr nob)
  have bR := n6.blk
  have szr := P5.bq.lt
  simp(disch:=omega)only[EZ,↓EP,↓reduceIte,Za,Zb,Zc,Zd,Ze,Zf,Zg,Zj,Zk,Zl,Zm,Zn,Zp,Zq,reduceCtorEq,q9]
  refine loop_inv (fun t ρ2 w7 => ∃ (i : Nat) (rs : List Int), ρ2 102 = .int .i64 i ∧ i ≤ yy ∧ t = yy - i ∧ PD w w7 ub vb w3.heap.size us o2 qs ∧ Blk w7 w5.heap.size (nums .u32 rs) ∧ rs.length = yy ∧ Lim rs ∧ val (rs.take i) * 2 ^ s = val (us.take i) + (at' us i % 2 ^ s) * pw i) _
   ⟨0, List.replicate yy 0, by simp(disch:=omega)only[EZ,↓EP,↓reduceIte,Za,Zb,Zc,Zd,Ze,Zf,Zg,Zj,Zk,Zl,Zm,Zn,Zp,Zq,reduceCtorEq], by omega, rfl, P6, bR, by simp, Lim.zeros _, by simp[val_nil,hlow]⟩ ?_
  rintro t ρ2 w7 hf ⟨i, rs, h102, hi, rfl, P7, B7, hrs, hRs, hvr⟩ N2 hN2
  have p4 : ρ2 4 = .slice (some ⟨w3.heap.size, 0, none⟩) z z := by rw[hf 4 rfl]; simp(disch:=omega)only[EZ,↓EP,↓reduceIte,Za,Zb,Zc,Zd,Ze,Zf,Zg,Zj,Zk,Zl,Zm,Zn,Zp,Zq,reduceCtorEq,q4]
  have p5 : ρ2 5 = .slice (some ⟨w5.heap.size, 0, none⟩) yy yy := by rw[hf 5 rfl]; simp(disch:=omega)only[EZ,↓EP,↓reduceIte,Za,Zb,Zc,Zd,Ze,Zf,Zg,Zj,Zk,Zl,Zm,Zn,Zp,Zq,reduceCtorEq]
  have p6 : ρ2 6 = .int .i64 s := by rw[hf 6 rfl]; simp(disch:=omega)only[EZ,↓EP,↓reduceIte,Za,Zb,Zc,Zd,Ze,Zf,Zg,Zj,Zk,Zl,Zm,Zn,Zp,Zq,reduceCtorEq,q6]
  have p7 : ρ2 7 = .slice (some ⟨ub, 0, none⟩) (x + 1) (x + 1) := by rw[hf 7 rfl]; simp(disch:=omega)only[EZ,↓EP,↓reduceIte,Za,Zb,Zc,Zd,Ze,Zf,Zg,Zj,Zk,Zl,Zm,Zn,Zp,Zq,reduceCtorEq,q7]
  have p101 : ρ2 101 = .int .i64 yy := by rw[hf 101 rfl]; simp(disch:=omega)only[EZ,↓EP,↓reduceIte,Za,Zb,Zc,Zd,Ze,Zf,Zg,Zj,Zk,Zl,Zm,Zn,Zp,Zq,reduceCtorEq,q9]
  clear hf
  by_cases hiy : (i : Int) < (yy : Int)
  ·have c1 := P7.bu.numN (j := i + 1) (by omega)
   have c0 := P7.bu.numN (j := i) (by omega)
   have b1 := hU.at (i + 1 : Nat)
   have b0 := hU.at (i : Nat)
   have eo := or_shl (a := at' us (i + 1 : Nat)) (b := at' us i) b1.1 b1.2 b0.1 b0.2
   obtain ⟨y1, ey, y0, y2, hy⟩ := shr_limb b0 b1 hs32
   have em : min s 64 = s := by omega
   have hpos : (0 : Int) ≤ at' us (i + 1 : Nat) * 4294967296 + at' us i := by omega
   simp(disch:=omega)only[Zu, Zv, Zx, Zz, EO, ↓EP, EQ, EM, ↓reduceIte, Za, Zb, Zc, Zd, Ze, Zf, Zg, Zj, Zk, Zl, Zm, Zn, Zp, Zq, reduceCtorEq, h102, p5, p6, p7, p101, c1, c0, eo, em, show ((i : Int) + 1).toNat = i + 1 by omega, wu32_mod, ey]
   intro m3
   refine st_num (B7.nb (Fr.drewN w7 _ nob)) (by omega) fun w8 p8 => ?_
   have P8 := P7.nb (Fr.drewN w7 m3 nob)
   simp(disch:=omega)only[Zu,Zv,Zx,Zz,EZ,↓EP,↓reduceIte,Za,Zb,Zc,Zd,Ze,Zf,Zg,Zj,Zk,Zl,Zm,Zn,Zp,Zq,reduceCtorEq,h102]
   refine hN2 (yy - (i + 1)) _ _ (by omega) ⟨i + 1, _, by simp(disch:=omega)only[EZ,↓EP,↓reduceIte,Za,Zb,Zc,Zd,Ze,Zf,Zg,Zj,Zk,Zl,Zm,Zn,Zp,Zq,reduceCtorEq,h102,Int.natCast_add], by omega, rfl, ⟨p8.keep (by omega) P8.bu, p8.keep (by omega) P8.bv, p8.keep (by omega) P8.bq, P8.fr.own p8.fr fun b e => by omega⟩, p8.blk, by simpa using hrs, hRs.set _ y0 y2, rest_step (by omega) hvr hy⟩
  ·have hiy : i = yy := by omega
   subst hiy
   have hrest := rest_end (r := val l % val r) (by omega) hU hrs hvr hu (by omega)
   simp(disch:=omega)only[EZ,↓EP,↓reduceIte,Za,Zb,Zc,Zd,Ze,Zf,Zg,Zj,Zk,Zl,Zm,Zn,Zp,Zq,reduceCtorEq,h102,p4,p5,p101]
   refine cut_spec hqs (blk_rd P7.bq) hQ (Nat.le_refl _) (by omega) _ fun m8 hm8 he8 _ => ?_
   simp(disch:=omega)only[EZ,↓EP,↓reduceIte,Za,Zb,Zc,Zd,Ze,Zf,Zg,Zj,Zk,Zl,Zm,Zn,Zp,Zq,reduceCtorEq,p5]
   refine cut_spec hrs (blk_rd B7) hRs (Nat.le_refl _) (by omega) _ fun m9 hm9 he9 _ => ?_
   simp(disch:=omega)only[EZ,↓EP,↓reduceIte,Za,Zb,Zc,Zd,Ze,Zf,Zg,Zj,Zk,Zl,Zm,Zn,Zp,Zq,reduceCtorEq]
   refine hK _ _ _ (own_cut P7.bq (by omega) P7.fr hqs hm8 (by rw[he8,hq])) (own_cut B7 (by omega) P7.fr hrs hm9 (by rw[he9,hrest])) fun b e1 e2 => ?_
   have h1 : w3.heap.size = b := Option.some.inj e1
   have h2 : w5.heap.size = b := Option.some.inj e2
   omega
end Go.Proofs.YtcgplgpdcfocpaaGreatDoor.Spec
end
section
namespace Go.Proofs.YtcgplgpdcfocpaaGreatDoor.Big
open Go Go.Proofs.YtcgplgpdcfocpaaGreatDoor.Eng
def leb : List Int → Int
 | [] => 0
 | x :: r => x + 256 * leb r
def lebs : Nat → Int → List Int
 | 0, _ => []
 | n + 1, v => v % 256 :: lebs n (v / 256)
def Byt (l : List Int) : Prop := ∀ x ∈ l, 0 ≤ x ∧ x < 256
theorem Byt.nil : Byt [] := fun x h => by cases h
theorem Byt.cons {x : Int} {r : List Int} (h : Byt (x :: r)) : (0 ≤ x ∧ x < 256) ∧ Byt r := ⟨h x (by simp), fun y hy => h y (by simp[hy])⟩
theorem Byt.mk {x : Int} {r : List Int} (h0 : 0 ≤ x) (h1 : x < 256) (h : Byt r) : Byt (x :: r) := fun y hy => by
 rcases List.mem_cons.1 hy with rfl | hy
 ·exact ⟨h0, h1⟩
 ·exact h y hy
theorem Byt.app {a b : List Int} (ha : Byt a) (hb : Byt b) : Byt (a ++ b) := fun x hx => by
 rcases List.mem_append.1 hx with h | h
 ·exact ha x h
 ·exact hb x h
theorem Byt.take {l : List Int} (h : Byt l) (n : Nat) : Byt (l.take n) := fun x hx => h x (List.mem_of_mem_take hx)
theorem Byt.drop {l : List Int} (h : Byt l) (n : Nat) : Byt (l.drop n) := fun x hx => h x (List.mem_of_mem_drop hx)
theorem Byt.rev {l : List Int} (h : Byt l) : Byt l.reverse := fun x hx => h x (List.mem_reverse.1 hx)
theorem Byt.zeros (n : Nat) : Byt (List.replicate n 0) := fun x hx => by
 obtain ⟨_, rfl⟩ := List.mem_replicate.1 hx; omega
theorem Byt.set {l : List Int} (h : Byt l) (n : Nat) {x : Int} (h0 : 0 ≤ x) (h1 : x < 256) : Byt (l.set n x) := fun y hy => by
 rcases List.mem_or_eq_of_mem_set hy with h' | rfl
 ·exact h y h'
 ·exact ⟨h0, h1⟩
theorem Byt.at {l : List Int} (h : Byt l) (i : Int) : 0 ≤ at' l i ∧ at' l i < 256 := by
 unfold at'
 rw[List.getD_eq_getElem?_getD]
 cases e : l[i.toNat]? with
 | none => simp
 | some x => exact h x (List.mem_of_getElem? e)
theorem p8_pos (k : Nat) : (0 : Int) < 256 ^ k := Int.pow_pos (by decide)
theorem leb_bd : ∀ {l : List Int}, Byt l → 0 ≤ leb l ∧ leb l < 256 ^ l.length
 | [], _ => by rw[leb,List.length_nil]; omega
 | x :: r, h => by
  obtain ⟨hx, hr⟩ := h.cons
  have := leb_bd hr
  rw[leb,List.length_cons,Int.pow_succ]
  omega
theorem lebs_len : ∀ (n : Nat) (v : Int), (lebs n v).length = n
 | 0, _ => rfl
 | n + 1, v => by rw[lebs,List.length_cons,lebs_len n]
theorem lebs_byt : ∀ (n : Nat) (v : Int), Byt (lebs n v)
 | 0, _ => Byt.nil
 | n + 1, v => Byt.mk (by omega) (by omega) (lebs_byt n _)
theorem leb_lebs : ∀ (n : Nat) {v : Int}, 0 ≤ v → v < 256 ^ n → leb (lebs n v) = v
 | 0, v, h0, h1 => by rw[lebs,leb]; simp at h1; omega
 | n + 1, v, h0, h1 => by
  rw[lebs,leb,leb_lebs n (by omega) (by rw [Int.pow_succ] at h1; omega)]
  omega
theorem lebs_leb : ∀ {l : List Int}, Byt l → lebs l.length (leb l) = l
 | [], _ => rfl
 | x :: r, h => by
  obtain ⟨hx, hr⟩ := h.cons
  rw[List.length_cons, lebs, leb, show (x + 256 * leb r) % 256 = x by omega, show (x + 256 * leb r) / 256 = leb r by omega, lebs_leb hr]
theorem leb_app : ∀ (a b : List Int), leb (a ++ b) = leb a + 256 ^ a.length * leb b
 | [], b => by rw[List.nil_append,List.length_nil,leb]; omega
 | x :: a, b => by
  rw[List.cons_append,leb,leb,leb_app a b,List.length_cons,Int.pow_succ]
  grind
theorem leb_take_succ {l : List Int} {k : Nat} (h : k < l.length) : leb (l.take (k + 1)) = leb (l.take k) + at' l k * 256 ^ k := by
 have e : l.take (k + 1) = l.take k ++ [at' l k] := by
  rw[List.take_add_one,List.getElem?_eq_getElem h,at_get h]; rfl
 have hk : (l.take k).length = k := by rw[List.length_take]; omega
 rw[e,leb_app,hk,leb,leb]
 grind
theorem at_cons_zero (x : Int) (r : List Int) : at' (x :: r) 0 = x := rfl
theorem at_cons_succ (x : Int) (r : List Int) (k : Nat) : at' (x :: r) (k + 1 : Nat) = at' r k := by rw[at_nat,at_nat]; rfl
theorem at_lebs : ∀ (n : Nat) (v : Int) {k : Nat}, k < n → at' (lebs n v) k = v / 256 ^ k % 256
 | n + 1, v, 0, _ => by rw[lebs]; simp[at_cons_zero,at']
 | n + 1, v, k + 1, h => by
  rw[lebs, at_cons_succ, at_lebs n _ (by omega), Int.ediv_ediv_of_nonneg (show (0 : Int) ≤ 256 by decide), Int.pow_succ, Int.mul_comm]
theorem p8_pw (k : Nat) : pw k = 256 ^ (4 * k) := by
 rw[pw_p2, show (256 : Int) = 2 ^ 8 by rfl, ← Int.pow_mul, ← Nat.mul_assoc]
theorem p8_p2 (k : Nat) : (256 : Int) ^ k = 2 ^ (8 * k) := by rw[show (256 : Int) = 2 ^ 8 by rfl, ← Int.pow_mul]
theorem p8_add (a b : Nat) : (256 : Int) ^ (a + b) = 256 ^ a * 256 ^ b := Int.pow_add _ _ _
theorem limb_byte {l : List Int} (hL : Lim l) (i : Nat) : at' l (i / 4 : Nat) / 2 ^ (8 * (i % 4)) % 256 = val l / 256 ^ i % 256 := by
 have e1 : val l = val (l.take (i / 4)) + pw (i / 4) * val (l.drop (i / 4)) := by
  by_cases h : i / 4 ≤ l.length
  ·exact val_split l h
  ·rw[List.take_of_length_le (by omega),List.drop_of_length_le (by omega),val_nil]; omega
 have b1 := val_bd (hL.take (i / 4))
 have b2 := (hL.drop (i / 4)).at 0
 have e2 : val (l.drop (i / 4)) = at' l (i / 4 : Nat) + 4294967296 * val (l.drop (i / 4 + 1)) := by
  by_cases h : i / 4 < l.length
  ·rw[List.drop_eq_getElem_cons h,val_cons,at_get h]
  ·rw[at_ge (by omega),List.drop_of_length_le (by omega),List.drop_of_length_le (by omega)]; rfl
 have bt : val (l.take (i / 4)) < pw (i / 4) := by
  have := pw_le (show (l.take (i / 4)).length ≤ i / 4 by simp; omega)
  omega
 have hpw := pw_pos (i / 4)
 have e3 : (256 : Int) ^ i = pw (i / 4) * 2 ^ (8 * (i % 4)) := by
  rw[p8_pw,← p8_p2,← p8_add]; congr 1; omega
 have hd : val l / pw (i / 4) = val (l.drop (i / 4)) := by
  rw[e1,Int.add_mul_ediv_left _ _ (by omega),Int.ediv_eq_zero_of_lt b1.1 bt,Int.zero_add]
 rw[e3,← Int.ediv_ediv_of_nonneg (by omega),hd,e2]
 have hr : i % 4 = 0 ∨ i % 4 = 1 ∨ i % 4 = 2 ∨ i % 4 = 3 := by omega
 rcases hr with h | h | h | h <;> rw[h] <;> simp <;> omega
def bv (l : List Int) : Int := leb l.reverse
def bvs (n : Nat) (v : Int) : List Int := (lebs n v).reverse
theorem bvs_len (n : Nat) (v : Int) : (bvs n v).length = n := by unfold bvs; rw[List.length_reverse,lebs_len]
theorem bvs_byt (n : Nat) (v : Int) : Byt (bvs n v) := (lebs_byt n v).rev
theorem bv_bd {l : List Int} (h : Byt l) : 0 ≤ bv l ∧ bv l < 256 ^ l.length := by
 have := leb_bd h.rev
 rwa [List.length_reverse] at this
theorem bv_bvs {n : Nat} {v : Int} (h0 : 0 ≤ v) (h1 : v < 256 ^ n) : bv (bvs n v) = v := by
 unfold bv bvs; rw[List.reverse_reverse,leb_lebs n h0 h1]
theorem bvs_bv {l : List Int} (h : Byt l) : bvs l.length (bv l) = l := by
 unfold bv bvs
 have := lebs_leb h.rev
 rw[List.length_reverse] at this
 rw[this,List.reverse_reverse]
theorem at_rev {l : List Int} {i : Nat} (h : i < l.length) : at' l.reverse i = at' l (l.length - 1 - i : Nat) := by
 rw[at_get (by simpa using h),at_get (by omega),List.getElem_reverse]
theorem at_bvs {n : Nat} {v : Int} {i : Nat} (h : i < n) : at' (bvs n v) (n - 1 - i : Nat) = v / 256 ^ i % 256 := by
 unfold bvs
 rw[at_rev (by rw [lebs_len]; omega), lebs_len, show n - 1 - (n - 1 - i) = i by omega, at_lebs n v h]
theorem bvs_of {n : Nat} {v : Int} {l : List Int} (hl : l.length = n) (h : ∀ i, i < n → at' l (n - 1 - i : Nat) = v / 256 ^ i % 256) : l = bvs n v := by
 apply List.ext_getElem
 ·rw[hl,bvs_len]
 ·intro i h1 h2
  have e := h (n - 1 - i) (by omega)
  rw[show n - 1 - (n - 1 - i) = i by omega] at e
  have e2 := at_bvs (n := n) (v := v) (i := n - 1 - i) (by omega)
  rw[show n - 1 - (n - 1 - i) = i by omega] at e2
  rw[← at_get h1,← at_get h2,e,e2]
end Go.Proofs.YtcgplgpdcfocpaaGreatDoor.Big
end
section
namespace Go.Proofs.YtcgplgpdcfocpaaGreatDoor.Big
open Go Go.Proofs.YtcgplgpdcfocpaaGreatDoor.Eng
def powR (b e m : List Int) : List Int × Int :=
 if 512 < b.length ∨ 256 < e.length ∨ 256 < m.length then ([], 3) else if val m = 0 then ([], 11) else (limbs (val b ^ (val e).toNat % val m), 0)
def fbR (b : List Int) : List Int × Int := if 2048 < b.length then ([], 3) else (limbs (bv b), 0)
def tbR (a : List Int) (n : Int) : List Int × Int :=
 if 512 < a.length then ([], 3) else if n < 0 ∨ 2048 < n then ([], 1) else if n < ((bl (val a) + 7) / 8 : Nat) then ([], 3) else (bvs n.toNat (val a), 0)
theorem limbs_one : limbs 1 = [1] := by
 have : Can [1] := ⟨fun x h => by simp at h; omega, .inr (by decide)⟩
 exact (this.eq (by decide)).symm
theorem len_mono {a b : Int} (h0 : 0 ≤ a) (h : a ≤ b) : (limbs a).length ≤ (limbs b).length := by
 have := (limbs_len (v := b) (by omega) (k := (limbs b).length)).1 (Nat.le_refl _)
 exact (limbs_len h0).2 (by omega)
theorem len_val {l : List Int} (hL : Lim l) : (limbs (val l)).length ≤ l.length := (limbs_len (val_bd hL).1).2 (val_bd hL).2
theorem len_mul {a b : Int} (ha : 0 ≤ a) (hb : 0 ≤ b) {n m : Nat} (h1 : (limbs a).length ≤ n) (h2 : (limbs b).length ≤ m) : (limbs (a * b)).length ≤ n + m := by
 have a1 := (limbs_len ha).1 h1
 have a2 := (limbs_len hb).1 h2
 refine (limbs_len (Int.mul_nonneg ha hb)).2 ?_
 rw[pw_add]
 have := pw_pos m
 calc a * b ≤ a * pw m := Int.mul_le_mul_of_nonneg_left (by omega) ha
  _ < pw n * pw m := Int.mul_lt_mul_of_pos_right a1 this
theorem mod_bd {a m : Int} (hm : 0 < m) : 0 ≤ a % m ∧ a % m < m := ⟨Int.emod_nonneg _ (by omega), Int.emod_lt_of_pos _ hm⟩
theorem pm_mul (b m : Int) (x y : Nat) : (b ^ x % m) * (b ^ y % m) % m = b ^ (x + y) % m := by
 rw[Int.pow_add,← Int.mul_emod]
theorem pm_base (b m : Int) (x : Nat) : (b % m) ^ x % m = b ^ x % m := by
 induction x with
 | zero => rw[Int.pow_zero,Int.pow_zero]
 | succ x ih => rw[Int.pow_succ,Int.pow_succ,Int.mul_emod,ih,Int.emod_emod,← Int.mul_emod]
theorem pm_one (b m : Int) : 1 % m = b ^ 0 % m := by rw[Int.pow_zero]
theorem pm_succ (b m : Int) (x : Nat) : (b ^ x % m) * (b % m) % m = b ^ (x + 1) % m := by rw[Int.pow_succ,← Int.mul_emod]
theorem limb_bits {l : List Int} (hL : Lim l) (i : Nat) : at' l (i / 8 : Nat) / 2 ^ (4 * (i % 8)) % 16 = val l / 16 ^ i % 16 := by
 have hb := limb_byte hL (i / 2)
 have e1 : i / 2 / 4 = i / 8 := by omega
 rw[e1] at hb
 have e16 : (16 : Int) ^ i = 256 ^ (i / 2) * 16 ^ (i % 2) := by
  rw[show (256 : Int) = 16 ^ 2 by rfl, ← Int.pow_mul, ← Int.pow_add]; congr 1; omega
 rw[e16,← Int.ediv_ediv_of_nonneg (by have := p8_pos (i / 2); omega)]
 have e2 : (2 : Int) ^ (4 * (i % 8)) = 2 ^ (8 * (i / 2 % 4)) * 16 ^ (i % 2) := by
  rw[show (16 : Int) = 2 ^ 4 by rfl, ← Int.pow_mul, ← Int.pow_add]; congr 1; omega
 rw[e2,← Int.ediv_ediv_of_nonneg (by have := p2_pos (8 * (i / 2 % 4)); omega)]
 generalize at' l (i / 8 : Nat) / 2 ^ (8 * (i / 2 % 4)) = x at *
 generalize val l / 256 ^ (i / 2) = y at *
 rcases (show i % 2 = 0 ∨ i % 2 = 1 by omega) with h | h <;> rw[h] <;> simp <;> omega
theorem pow16 (i : Nat) : (16 : Int) ^ i = 2 ^ (4 * i) := by rw[show (16 : Int) = 2 ^ 4 by rfl, ← Int.pow_mul]
end Go.Proofs.YtcgplgpdcfocpaaGreatDoor.Big
end
section
namespace Go.Proofs.YtcgplgpdcfocpaaGreatDoor.Spec
open Go Go.RowKit Go.Proofs Go.Proofs.YtcgplgpdcfocpaaGreatDoor.Eng Go.Proofs.YtcgplgpdcfocpaaGreatDoor.Code Go.Proofs.YtcgplgpdcfocpaaGreatDoor.Big
attribute [local irreducible] callK S.W opsW scrW
def Nv (w : World) (v : Value) (x : Int) : Prop := 0 ≤ x ∧ Vw .u32 w v (limbs x)
theorem Nv.nb {w w' : World} {v : Value} {x : Int} (h : Nv w v x) (f : Fr w w' nob) : Nv w' v x := ⟨h.1, h.2.nb f⟩
theorem _root_.Go.Proofs.YtcgplgpdcfocpaaGreatDoor.Eng.Gw.nv {w w' : World} {v : Value} {x : Int} (h : Gw .u32 w w' v (limbs x)) (h0 : 0 ≤ x) : Nv w' v x := ⟨h0, h.vw⟩
theorem Nv.nil (w : World) : Nv w (.slice none 0 0) 0 := ⟨Int.le_refl _, by rw[limbs_zero]; exact Vw.nil _ _⟩
theorem Nv.one {w w' : World} (h : New w w' (nums .u32 [1])) : Nv w' (.slice (some ⟨w.heap.size, 0, none⟩) 1 1) 1 := ⟨by decide, by rw[limbs_one]; exact h.vw rfl⟩
theorem cut_vw {w : World} {va : Value} {l : List Int} (ha : Vw .u32 w va l) (hL : Lim l) (h63 : l.length ≤ 4611686018427387904) (K : Value → World → Prop)
  (hK : ∀ v, Nv w v (val l) → K v w) : callK Tryz.prog 64 [va] w K := by
 obtain ⟨A, c, rfl, hc, hr⟩ := ha
 refine cut_spec rfl hr hL hc h63 _ fun m hm he hlen => hK _ ⟨(val_bd hL).1, ?_⟩
 have := hr.take m
 rw[he] at this
 exact Vw.of hlen.symm (by omega) this
theorem trim_vw {w : World} {va : Value} {l : List Int} (ha : Vw .u32 w va l) (hL : Lim l) (h47 : l.length ≤ 35184372088832) (K : Value → World → Prop)
  (hK : ∀ v w', Gw .u32 w w' v (limbs (val l)) → K v w') : callK Tryz.prog 83 [va] w K := by
 obtain ⟨A, c, rfl, hc, hr⟩ := ha
 exact trim_spec rfl hr hL hc h47 K hK
theorem bits_vw {w : World} {va : Value} {l : List Int} (ha : Vw .u32 w va l) (hL : Lim l) (h : l.length ≤ 1099511627776) (K : Value → World → Prop)
  (hK : K (.int .i64 (bl (val l) : Int)) w) : callK Tryz.prog 38 [va] w K := by
 obtain ⟨A, c, rfl, hc, hr⟩ := ha
 exact bits_spec rfl hr hL hc h K hK
theorem cmp_vw {w : World} {va vb : Value} {l r : List Int} (ha : Vw .u32 w va l) (hb : Vw .u32 w vb r) (hL : Lim l) (hR : Lim r) (h1 : l.length ≤ 1099511627776) (h2 : r.length ≤ 1099511627776) (K : Value → World → Prop)
  (hK : ∀ w', Fr w w' nob → K (.int .i64 (cmpI (val l) (val r))) w') : callK Tryz.prog 47 [va, vb] w K := by
 obtain ⟨A, c, rfl, hc, hr⟩ := ha
 obtain ⟨B, d, rfl, hd, hs⟩ := hb
 exact cmp_spec rfl rfl hr hs hL hR hc hd h1 h2 K hK
theorem product_vw {w : World} {va vb : Value} {l r : List Int} (ha : Vw .u32 w va l) (hb : Vw .u32 w vb r) (hL : Lim l) (hR : Lim r) (h1 : l.length ≤ 1099511627776) (h2 : r.length ≤ 1099511627776) (K : Value → World → Prop)
  (hK : ∀ v w', Gw .u32 w w' v (limbs (val l * val r)) → K v w') : callK Tryz.prog 110 [va, vb] w K := by
 obtain ⟨A, c, rfl, hc, hr⟩ := ha
 obtain ⟨B, d, rfl, hd, hs⟩ := hb
 exact product_spec rfl rfl hr hs hL hR h1 h2 K hK
theorem parts_vw {w : World} {va vb : Value} {l r : List Int} (ha : Vw .u32 w va l) (hb : Vw .u32 w vb r) (hL : Lim l) (hR : Lim r) (h1 : l.length ≤ 549755813888) (h2 : r.length ≤ 549755813888) (hpos : 0 < val r) (K : Value → World → Prop)
  (hK : ∀ u v w', Gw .u32 w w' u (limbs (val l / val r)) → Gw .u32 w w' v (limbs (val l % val r)) → (∀ b, blkOf u = some b → blkOf v ≠ some b) → K (.tuple #[u, v]) w') : callK Tryz.prog 81 [va, vb] w K := by
 obtain ⟨A, c, rfl, hc, hr⟩ := ha
 obtain ⟨B, d, rfl, hd, hs⟩ := hb
 exact parts_spec rfl rfl hr hs hL hR hc hd h1 h2 hpos K hK
theorem times_nv {w : World} {va vb vm : Value} {a b m : Int} {n : Nat} (ha : Nv w va a) (hb : Nv w vb b) (hm : Nv w vm m) (hpos : 0 < m) (h1 : (limbs a).length ≤ n) (h2 : (limbs b).length ≤ n) (h3 : (limbs m).length ≤ n) (hn : n ≤ 1000000) (K : Value → World → Prop)
  (hK : ∀ v w', Gw .u32 w w' v (limbs (a * b % m)) → K v w') : callK Tryz.prog 82 [va, vb, vm] w K := by
 refine call_of Tryz.func82 Code.h82 (by simp[Code.c82]) ?_
 simp(disch:=omega)only[EZ,↓EP,↓reduceIte,Za,Zb,Zc,Zd,Ze,Zf,Zg,Zj,Zk,Zl,Zm,Zn,Zp,Zq,reduceCtorEq,Code.c82]
 refine product_vw ha.2 hb.2 (limbs_lim a) (limbs_lim b) (by omega) (by omega) _ fun v1 w1 g1 => ?_
 rw[limbs_val ha.1,limbs_val hb.1] at g1
 have h0 := Int.mul_nonneg ha.1 hb.1
 have hl := len_mul ha.1 hb.1 h1 h2
 simp(disch:=omega)only[EZ,↓EP,↓reduceIte,Za,Zb,Zc,Zd,Ze,Zf,Zg,Zj,Zk,Zl,Zm,Zn,Zp,Zq,reduceCtorEq]
 refine parts_vw g1.vw (hm.nb g1.fr).2 (limbs_lim _) (limbs_lim m) (by omega) (by omega) (by rw[limbs_val hm.1]; exact hpos) _ fun u2 v2 w2 _ g2 _ => ?_
 rw[limbs_val h0,limbs_val hm.1] at g2
 simp(disch:=omega)only[EZ,↓EP,↓reduceIte,Za,Zb,Zc,Zd,Ze,Zf,Zg,Zj,Zk,Zl,Zm,Zn,Zp,Zq,reduceCtorEq]
 exact hK v2 w2 (g2.from g1.fr)
end Go.Proofs.YtcgplgpdcfocpaaGreatDoor.Spec
end
section
namespace Go.Proofs.YtcgplgpdcfocpaaGreatDoor.Dg
open Go Go.Proofs.YtcgplgpdcfocpaaGreatDoor.Eng
def pw (k : Nat) : Int := 65536 ^ k
theorem pw_zero : pw 0 = 1 := rfl
theorem pw_one : pw 1 = 65536 := rfl
theorem pw_succ (k : Nat) : pw (k + 1) = pw k * 65536 := by unfold pw; exact Int.pow_succ _ _
theorem pw_pos (k : Nat) : 0 < pw k := by unfold pw; exact Int.pow_pos (by decide)
theorem pw_add (a b : Nat) : pw (a + b) = pw a * pw b := by unfold pw; exact Int.pow_add _ _ _
theorem pw_le {a b : Nat} (h : a ≤ b) : pw a ≤ pw b := by
 obtain ⟨d, rfl⟩ := Nat.exists_eq_add_of_le h
 rw[pw_add]
 have h1 := pw_pos a
 have h2 := pw_pos d
 have := Int.mul_le_mul_of_nonneg_left (show (1 : Int) ≤ pw d by omega) (show (0 : Int) ≤ pw a by omega)
 omega
attribute [irreducible] pw
def val : List Int → Int
 | [] => 0
 | x :: r => x + 65536 * val r
def Lim (l : List Int) : Prop := ∀ x ∈ l, 0 ≤ x ∧ x < 65536
theorem val_nil : val [] = 0 := rfl
theorem val_cons (x : Int) (r : List Int) : val (x :: r) = x + 65536 * val r := rfl
theorem val_one (x : Int) : val [x] = x := by rw[val_cons,val_nil]; omega
theorem Lim.nil : Lim [] := fun x h => by cases h
theorem Lim.cons {x : Int} {r : List Int} (h : Lim (x :: r)) : (0 ≤ x ∧ x < 65536) ∧ Lim r := ⟨h x (by simp), fun y hy => h y (by simp[hy])⟩
theorem Lim.mk {x : Int} {r : List Int} (h0 : 0 ≤ x) (h1 : x < 65536) (h : Lim r) : Lim (x :: r) := fun y hy => by
 rcases List.mem_cons.1 hy with rfl | hy
 ·exact ⟨h0, h1⟩
 ·exact h y hy
theorem Lim.app {a b : List Int} (ha : Lim a) (hb : Lim b) : Lim (a ++ b) := fun x hx => by
 rcases List.mem_append.1 hx with h | h
 ·exact ha x h
 ·exact hb x h
theorem Lim.take {l : List Int} (h : Lim l) (n : Nat) : Lim (l.take n) := fun x hx => h x (List.mem_of_mem_take hx)
theorem Lim.drop {l : List Int} (h : Lim l) (n : Nat) : Lim (l.drop n) := fun x hx => h x (List.mem_of_mem_drop hx)
theorem Lim.set {l : List Int} (h : Lim l) (n : Nat) {x : Int} (h0 : 0 ≤ x) (h1 : x < 65536) : Lim (l.set n x) := fun y hy => by
 rcases List.mem_or_eq_of_mem_set hy with h' | rfl
 ·exact h y h'
 ·exact ⟨h0, h1⟩
theorem Lim.zeros (n : Nat) : Lim (List.replicate n 0) := fun x hx => by
 obtain ⟨_, rfl⟩ := List.mem_replicate.1 hx; omega
theorem at_nat (l : List Int) (k : Nat) : at' l k = l.getD k 0 := by unfold at'; rw[Int.toNat_natCast]
theorem Lim.at {l : List Int} (h : Lim l) (i : Int) : 0 ≤ at' l i ∧ at' l i < 65536 := by
 unfold at'
 rw[List.getD_eq_getElem?_getD]
 cases e : l[i.toNat]? with
 | none => simp
 | some x => exact h x (List.mem_of_getElem? e)
theorem at_ge {l : List Int} {k : Nat} (h : l.length ≤ k) : at' l k = 0 := by rw[at_nat,List.getD_eq_getElem?_getD,List.getElem?_eq_none h]; rfl
theorem at_get {l : List Int} {k : Nat} (h : k < l.length) : at' l k = l[k] := by rw[at_nat,List.getD_eq_getElem?_getD,List.getElem?_eq_getElem h]; rfl
theorem at_take {l : List Int} {k n : Nat} (h : k < n) : at' (l.take n) k = at' l k := by
 rw[at_nat,at_nat,List.getD_eq_getElem?_getD,List.getD_eq_getElem?_getD,List.getElem?_take,if_pos h]
theorem at_drop (l : List Int) (k n : Nat) : at' (l.drop n) k = at' l (n + k : Nat) := by
 rw[at_nat,at_nat,List.getD_eq_getElem?_getD,List.getD_eq_getElem?_getD,List.getElem?_drop]
theorem at_setN {l : List Int} {k : Nat} (h : k < l.length) (x : Int) : at' (l.set k x) k = x := by
 rw[at_nat,List.getD_eq_getElem?_getD,List.getElem?_set_self h]; rfl
theorem at_setO {l : List Int} {k j : Nat} (h : k ≠ j) (x : Int) : at' (l.set k x) j = at' l j := by
 rw[at_nat,at_nat,List.getD_eq_getElem?_getD,List.getD_eq_getElem?_getD,List.getElem?_set_ne h]
theorem at_app {a b : List Int} {k : Nat} (h : k < a.length) : at' (a ++ b) k = at' a k := by
 rw[at_nat,at_nat,List.getD_eq_getElem?_getD,List.getD_eq_getElem?_getD,List.getElem?_append_left h]
theorem at_zeros (n k : Nat) : at' (List.replicate n 0) k = 0 := by
 rw[at_nat,List.getD_eq_getElem?_getD,List.getElem?_replicate]; split <;> rfl
theorem val_app : ∀ (a b : List Int), val (a ++ b) = val a + pw a.length * val b
 | [], b => by rw[List.nil_append,List.length_nil,val_nil,pw_zero]; omega
 | x :: a, b => by
  rw[List.cons_append,val_cons,val_cons,val_app a b,List.length_cons,pw_succ]
  grind
theorem val_bd : ∀ {l : List Int}, Lim l → 0 ≤ val l ∧ val l < pw l.length
 | [], _ => by rw[val_nil,List.length_nil,pw_zero]; omega
 | x :: r, h => by
  obtain ⟨hx, hr⟩ := h.cons
  have := val_bd hr
  rw[val_cons,List.length_cons,pw_succ]
  omega
theorem val_zeros (n : Nat) : val (List.replicate n 0) = 0 := by
 induction n with
 | zero => rfl
 | succ n ih => rw[List.replicate_succ,val_cons,ih]; rfl
theorem val_take_succ {l : List Int} {k : Nat} (h : k < l.length) : val (l.take (k + 1)) = val (l.take k) + at' l k * pw k := by
 have e : l.take (k + 1) = l.take k ++ [at' l k] := by
  rw[List.take_add_one,List.getElem?_eq_getElem h,at_get h]; rfl
 have hk : (l.take k).length = k := by rw[List.length_take]; omega
 rw[e,val_app,hk,val_one]
 grind
theorem val_take_succ' (l : List Int) (k : Nat) : val (l.take (k + 1)) = val (l.take k) + at' l k * pw k := by
 by_cases h : k < l.length
 ·exact val_take_succ h
 ·rw[at_ge (by omega),List.take_of_length_le (by omega),List.take_of_length_le (by omega)]
  omega
theorem val_take_all {l : List Int} {n : Nat} (h : l.length ≤ n) : val (l.take n) = val l := by rw[List.take_of_length_le h]
theorem val_split (l : List Int) {k : Nat} (h : k ≤ l.length) : val l = val (l.take k) + pw k * val (l.drop k) := by
 have hk : (l.take k).length = k := by rw[List.length_take]; omega
 have := val_app (l.take k) (l.drop k)
 rwa [List.take_append_drop, hk] at this
theorem take_set {l : List Int} {k : Nat} {x : Int} : (l.set k x).take k = l.take k := by rw[List.take_set_of_le (Nat.le_refl _)]
theorem val_take_set {l : List Int} {k : Nat} {x : Int} (h : k < l.length) : val ((l.set k x).take (k + 1)) = val (l.take k) + x * pw k := by
 rw[val_take_succ (by rw [List.length_set]; exact h),take_set,at_setN h]
theorem val_set {l : List Int} {k : Nat} {x : Int} (h : k < l.length) : val (l.set k x) = val l + (x - at' l k) * pw k := by
 have h1 := val_split (l.set k x) (k := k + 1) (by rw[List.length_set]; omega)
 have h2 := val_split l (k := k + 1) (by omega)
 rw[val_take_set h,List.drop_set_of_lt (by omega)] at h1
 rw[val_take_succ h] at h2
 rw[h1,h2]
 grind
theorem val_one_more {l : List Int} (h : l ≠ []) : ∃ k : Nat, l.length = k + 1 ∧ val l = val (l.take k) + at' l k * pw k := by
 obtain ⟨k, hk⟩ : ∃ k, l.length = k + 1 := ⟨l.length - 1, by have := List.length_pos_iff.2 h; omega⟩
 refine ⟨k, hk, ?_⟩
 rw[← val_take_succ (by omega),← hk,List.take_length]
def Can (l : List Int) : Prop := Lim l ∧ (l = [] ∨ at' l ((l.length - 1 : Nat) : Int) ≠ 0)
theorem Can.nil : Can [] := ⟨Lim.nil, .inl rfl⟩
theorem Can.pos {l : List Int} (h : Can l) (h0 : l ≠ []) : pw (l.length - 1) ≤ val l := by
 obtain ⟨k, hk, hv⟩ := val_one_more h0
 rcases h.2 with e | e
 ·exact absurd e h0
 rw[show l.length - 1 = k by omega] at *
 have h1 := h.1.at k
 have h2 := val_bd (h.1.take k)
 have h3 := Int.mul_le_mul_of_nonneg_right (show (1 : Int) ≤ at' l k by omega) (show (0 : Int) ≤ pw k by have := pw_pos k; omega)
 omega
theorem Can.zero {l : List Int} (h : Can l) (hv : val l = 0) : l = [] := by
 by_cases h0 : l = []
 ·exact h0
 ·have := h.pos h0
  have := pw_pos (l.length - 1)
  omega
theorem Can.tail {x : Int} {r : List Int} (h : Can (x :: r)) : Can r := by
 refine ⟨h.1.cons.2, ?_⟩
 by_cases hr : r = []
 ·exact .inl hr
 ·rcases h.2 with e | e
  ·cases e
  ·right
   have := List.length_pos_iff.2 hr
   obtain ⟨k, hk⟩ : ∃ k, r.length = k + 1 := ⟨r.length - 1, by omega⟩
   rw[List.length_cons,hk] at e
   rw[hk]
   simp only[Nat.add_sub_cancel] at e ⊢
   rw[at_nat] at e ⊢
   simpa using e
theorem Can.uniq : ∀ {a b : List Int}, Can a → Can b → val a = val b → a = b
 | [], b, _, hb, h => (hb.zero h.symm).symm
 | x :: r, [], ha, _, h => ha.zero h
 | x :: r, y :: s, ha, hb, h => by
  rw[val_cons,val_cons] at h
  have h1 := ha.1.cons.1
  have h2 := hb.1.cons.1
  have e : x = y := by omega
  subst e
  rw[Can.uniq ha.tail hb.tail (by omega)]
def digsN : Nat → List Int
 | 0 => []
 | n + 1 => (((n + 1) % 65536 : Nat) : Int) :: digsN ((n + 1) / 65536)
termination_by n => n
decreasing_by omega
theorem digsN_can : ∀ n : Nat, Can (digsN n) ∧ val (digsN n) = n := by
 intro n
 induction n using Nat.strongRecOn with
 | ind n ih =>
  cases n with
  | zero => rw[digsN]; exact ⟨Can.nil, rfl⟩
  | succ n =>
   obtain ⟨hc, hv⟩ := ih ((n + 1) / 65536) (by omega)
   rw[digsN]
   refine ⟨⟨Lim.mk (by omega) (by omega) hc.1, .inr ?_⟩, by rw[val_cons,hv]; omega⟩
   by_cases h0 : digsN ((n + 1) / 65536) = []
   ·rw[h0]
    rw[h0,val_nil] at hv
    rw[at_nat]
    simp only[List.length_cons,List.length_nil,Nat.add_sub_cancel]
    show (((n + 1) % 65536 : Nat) : Int) ≠ 0
    omega
   ·rcases hc.2 with e | e
    ·exact absurd e h0
    ·have := List.length_pos_iff.2 h0
     obtain ⟨k, hk⟩ : ∃ k, (digsN ((n + 1) / 65536)).length = k + 1 := ⟨(digsN ((n + 1) / 65536)).length - 1, by omega⟩
     rw[hk] at e
     rw[List.length_cons,hk]
     simp only[Nat.add_sub_cancel] at e ⊢
     rw[at_nat] at e ⊢
     simpa using e
def digs (v : Int) : List Int := digsN v.toNat
theorem digs_can (v : Int) : Can (digs v) := (digsN_can _).1
theorem digs_val {v : Int} (h : 0 ≤ v) : val (digs v) = v := by unfold digs; rw[(digsN_can _).2]; omega
theorem digs_lim (v : Int) : Lim (digs v) := (digs_can v).1
theorem Can.eq {l : List Int} (h : Can l) {v : Int} (hv : val l = v) : l = digs v := by
 have := val_bd h.1
 exact h.uniq (digs_can v) (by rw[digs_val (by omega)]; exact hv)
theorem digs_zero : digs 0 = [] := ((Can.nil).eq rfl).symm
theorem digs_nil {v : Int} (h : 0 ≤ v) (hl : digs v = []) : v = 0 := by
 have := digs_val h
 rw[hl] at this
 exact this.symm
theorem cut_can {l : List Int} (h : Lim l) {n : Nat} (hn : n ≤ l.length) (hz : ∀ j : Nat, n ≤ j → j < l.length → at' l j = 0) (ht : n = 0 ∨ at' l ((n - 1 : Nat) : Int) ≠ 0) : l.take n = digs (val l) := by
 have hv : val (l.drop n) = 0 := by
  have : l.drop n = List.replicate (l.length - n) 0 := by
   apply List.ext_getElem
   ·simp
   ·intro i h1 h2
    simp only[List.length_drop] at h1
    rw[List.getElem_drop,List.getElem_replicate,← at_get (by omega)]
    exact hz (n + i) (by omega) (by omega)
  rw[this,val_zeros]
 refine Can.eq ⟨h.take n, ?_⟩ (by rw[val_split l hn,hv]; omega)
 rcases ht with rfl | ht
 ·left; simp
 ·by_cases h0 : n = 0
  ·left; subst h0; simp
  ·right
   rw[List.length_take,Nat.min_eq_left hn,at_take (by omega)]
   exact ht
theorem digs_len {v : Int} (h : 0 ≤ v) {k : Nat} : (digs v).length ≤ k ↔ v < pw k := by
 have hv := digs_val h
 have hb := val_bd (digs_lim v)
 constructor
 ·intro hk
  have := pw_le hk
  omega
 ·intro hk
  by_cases h0 : digs v = []
  ·rw[h0]; exact Nat.zero_le _
  ·have hp := (digs_can v).pos h0
   rw[hv] at hp
   by_cases hle : (digs v).length ≤ k
   ·exact hle
   ·have := pw_le (show k ≤ (digs v).length - 1 by omega)
    omega
theorem Can.digs {l : List Int} (h : Can l) : digs (val l) = l := (h.eq rfl).symm
theorem Can.lt_of_len {a b : List Int} (ha : Can a) (hb : Can b) (h : a.length < b.length) : val a < val b := by
 have h1 := val_bd ha.1
 have h2 := hb.pos (by rintro rfl; simp at h)
 have := pw_le (show a.length ≤ b.length - 1 by omega)
 omega
attribute [irreducible] digs
end Go.Proofs.YtcgplgpdcfocpaaGreatDoor.Dg
end
section
namespace Go.Proofs.YtcgplgpdcfocpaaGreatDoor.Big
open Go Go.Proofs.YtcgplgpdcfocpaaGreatDoor.Eng
theorem dpw (k : Nat) : pw k = Dg.pw (2 * k) := by
 induction k with
 | zero => rw[pw_zero,Nat.mul_zero,Dg.pw_zero]
 | succ k ih => rw[pw_succ, show 2 * (k + 1) = 2 * k + 1 + 1 by omega, Dg.pw_succ, Dg.pw_succ, ih]; omega
def sp : List Int → List Int
 | [] => []
 | x :: r => x % 65536 :: x / 65536 :: sp r
theorem sp_app : ∀ (a b : List Int), sp (a ++ b) = sp a ++ sp b
 | [], _ => rfl
 | x :: a, b => by rw[List.cons_append,sp,sp,sp_app a b]; rfl
theorem sp_len : ∀ (l : List Int), (sp l).length = 2 * l.length
 | [] => rfl
 | x :: r => by rw[sp,List.length_cons,List.length_cons,sp_len r,List.length_cons]; omega
theorem sp_lim : ∀ {l : List Int}, Lim l → Dg.Lim (sp l)
 | [], _ => Dg.Lim.nil
 | x :: r, h => by
  obtain ⟨hx, hr⟩ := h.cons
  exact Dg.Lim.mk (by omega) (by omega) (Dg.Lim.mk (by omega) (by omega) (sp_lim hr))
theorem sp_val : ∀ (l : List Int), Dg.val (sp l) = val l
 | [] => rfl
 | x :: r => by rw[sp,Dg.val_cons,Dg.val_cons,val_cons,sp_val r]; omega
theorem sp_snoc (l : List Int) {k : Nat} (h : k < l.length) : sp (l.take (k + 1)) = sp (l.take k) ++ [at' l k % 65536, at' l k / 65536] := by
 have e : l.take (k + 1) = l.take k ++ [at' l k] := by
  rw[List.take_add_one,List.getElem?_eq_getElem h,at_get h]; rfl
 rw[e,sp_app]; rfl
def mrg : List Int → List Int
 | [] => []
 | [x] => [x]
 | x :: y :: r => (x + 65536 * y) :: mrg r
theorem mrg_val : ∀ (l : List Int), val (mrg l) = Dg.val l
 | [] => rfl
 | [x] => by rw[mrg,val_one,Dg.val_one]
 | x :: y :: r => by rw[mrg,val_cons,Dg.val_cons,Dg.val_cons,mrg_val r]; omega
theorem mrg_lim : ∀ {l : List Int}, Dg.Lim l → Lim (mrg l)
 | [], _ => Lim.nil
 | [x], h => by have := (h.cons).1; exact Lim.mk (by omega) (by omega) Lim.nil
 | x :: y :: r, h => by
  obtain ⟨hx, hr⟩ := h.cons
  obtain ⟨hy, hr⟩ := hr.cons
  exact Lim.mk (by omega) (by omega) (mrg_lim hr)
theorem mrg_len : ∀ (l : List Int), (mrg l).length = (l.length + 1) / 2
 | [] => by simp[mrg]
 | [x] => by simp[mrg]
 | x :: y :: r => by rw[mrg,List.length_cons,mrg_len r,List.length_cons,List.length_cons]; omega
theorem can_low {l : List Int} (hL : Lim l) (h : l = [] ∨ pw (l.length - 1) ≤ val l) : Big.Can l := by
 refine ⟨hL, ?_⟩
 rcases h with h | h
 ·exact .inl h
 ·by_cases h0 : l = []
  ·exact .inl h0
  right
  intro ht
  obtain ⟨k, hk, hv⟩ := val_one_more h0
  rw[show l.length - 1 = k by omega] at ht h
  rw[ht] at hv
  have := (val_bd (hL.take k)).2
  rw[List.length_take,Nat.min_eq_left (by omega)] at this
  omega
theorem mrg_digs {v : Int} (h : 0 ≤ v) : mrg (Dg.digs v) = limbs v := by
 have hc := Dg.digs_can v
 have hv := Dg.digs_val h
 refine (can_low (mrg_lim hc.1) ?_).eq (by rw[mrg_val,hv])
 by_cases h0 : Dg.digs v = []
 ·left; rw[h0]; rfl
 ·right
  have hp := hc.pos h0
  have hlen : 0 < (Dg.digs v).length := List.length_pos_iff.2 h0
  rw[mrg_val,dpw,mrg_len]
  exact Int.le_trans (Dg.pw_le (by omega)) hp
theorem digs_len_of {v : Int} {n : Nat} (h : 0 ≤ v) (hn : v < pw n) : (Dg.digs v).length ≤ 2 * n := (Dg.digs_len h).2 (by rw[← dpw]; exact hn)
theorem digs_zero_iff {v : Int} (h : 0 ≤ v) : (Dg.digs v).length = 0 ↔ v = 0 := by
 constructor
 ·intro hl; exact Dg.digs_nil h (List.length_eq_zero_iff.1 hl)
 ·rintro rfl; rw[Dg.digs_zero]; rfl
end Go.Proofs.YtcgplgpdcfocpaaGreatDoor.Big
end
section
namespace Go.Proofs.YtcgplgpdcfocpaaGreatDoor.Spec
open Go Go.RowKit Go.Proofs Go.Proofs.YtcgplgpdcfocpaaGreatDoor.Eng Go.Proofs.YtcgplgpdcfocpaaGreatDoor.Code Go.Proofs.YtcgplgpdcfocpaaGreatDoor.Big
attribute [local irreducible] callK S.W opsW scrW
theorem plain_spec {w : World} {A : Option Addr} {n c : Nat} {l : List Int} (hn : l.length = n) (hl : Rd w A (nums .u64 l)) (hL : Dg.Lim l) (hc : n ≤ c) (h63 : n ≤ 4611686018427387904) (K : Value → World → Prop)
  (hK : ∀ m, m ≤ n → l.take m = Dg.digs (Dg.val l) → m = (Dg.digs (Dg.val l)).length → K (.slice A m c) w) : callK Tryz.prog 100 [.slice A n c] w K := by
 refine call_of Tryz.func100 Code.h100 (by simp[Code.c100]) ?_
 subst hn
 simp(disch:=omega)only[EZ,↓EP,↓reduceIte,Za,Zb,Zc,Zd,Ze,Zf,Zg,Zj,Zk,Zl,Zm,Zn,Zp,Zq,reduceCtorEq,Code.c100]
 refine loop_inv (fun t ρ w' => w' = w ∧ ρ 3 = .int .i64 t ∧ t ≤ l.length ∧ ∀ j : Nat, t ≤ j → j < l.length → at' l j = 0) l.length ⟨rfl, by simp(disch:=omega)only[EZ,↓EP,↓reduceIte,Za,Zb,Zc,Zd,Ze,Zf,Zg,Zj,Zk,Zl,Zm,Zn,Zp,Zq,reduceCtorEq], Nat.le_refl _, fun j h1 h2 => by omega⟩ ?_
 rintro t ρ w' hf ⟨rfl, h3, ht, hz⟩ N hN
 have r0 : ρ 0 = .slice A l.length c := by rw[hf 0 rfl]; simp only[↓EP,EQ,EM,↓reduceIte,Za,Zb,Zc,Zd,Ze,Zf,Zg,Zj,Zk,Zl,Zm,Zn,Zp,Zq,reduceCtorEq]
 clear hf
 have fin : (t = 0 ∨ at' l ((t - 1 : Nat) : Int) ≠ 0) → K (.slice A t c) w' := fun h => by
  have e := Dg.cut_can hL ht hz h
  exact hK t ht e (by rw[← e,List.length_take]; omega)
 cases t with
 | zero =>
  simp(disch:=omega)only[EZ,↓EP,↓reduceIte,Za,Zb,Zc,Zd,Ze,Zf,Zg,Zj,Zk,Zl,Zm,Zn,Zp,Zq,reduceCtorEq,h3,r0,Int.natCast_zero]
  exact fin (.inl rfl)
 | succ k =>
  obtain ⟨p, rfl, _, hp⟩ := hl.get (by rw[nums_length]; omega)
  have cp := hp.numN (j := k) (by omega)
  have e1 : ((k + 1 : Nat) : Int) - 1 = k := by omega
  by_cases he : at' l k = 0
  ·simp(disch:=omega)only[EZ,↓EP,↓reduceIte,Za,Zb,Zc,Zd,Ze,Zf,Zg,Zj,Zk,Zl,Zm,Zn,Zp,Zq,reduceCtorEq,h3,r0,e1,cp,he]
   exact hN k _ _ (by omega) ⟨rfl, by simp(disch:=omega)only[EZ,↓EP,↓reduceIte,Za,Zb,Zc,Zd,Ze,Zf,Zg,Zj,Zk,Zl,Zm,Zn,Zp,Zq,reduceCtorEq], by omega, fun j h1 h2 => by
    by_cases hj : j = k
    ·subst hj; exact he
    ·exact hz j (by omega) h2⟩
  ·have hf : (at' l k = 0) = False := eq_false he
   simp(disch:=omega)only[EZ,↓EP,↓reduceIte,Za,Zb,Zc,Zd,Ze,Zf,Zg,Zj,Zk,Zl,Zm,Zn,Zp,Zq,reduceCtorEq,h3,r0,e1,cp,hf]
   exact fin (.inr (by rw[show k + 1 - 1 = k by omega]; exact he))
theorem plain_gw {w0 w : World} {v : Value} {l : List Int} (g : Gw .u64 w0 w v l) (hL : Dg.Lim l) (h63 : l.length ≤ 4611686018427387904) (K : Value → World → Prop)
  (hK : ∀ v', Gw .u64 w0 w v' (Dg.digs (Dg.val l)) → K v' w) : callK Tryz.prog 100 [v] w K := by
 have gs := g.sl
 rcases gs with ⟨rfl, rfl⟩ | ⟨b, pad, rfl, hB⟩
 ·refine plain_spec rfl (.inl rfl) hL (Nat.le_refl _) (by simp) _ fun m hm he _ => ?_
  obtain rfl : m = 0 := by simpa using hm
  refine hK _ ?_
  rw[← he]
  exact (Gw.nil .u64 w).from g.fr
 ·refine plain_spec rfl g.sl.rdOf hL (by omega) h63 _ fun m hm he _ => hK _ ?_
  refine own_cut hB (g.up b rfl) g.fr (by simp) (by omega) ?_
  rw[List.take_append_of_le_length hm,he]
theorem plain_vw {w : World} {va : Value} {l : List Int} (ha : Vw .u64 w va l) (hL : Dg.Lim l) (h63 : l.length ≤ 4611686018427387904) (K : Value → World → Prop)
  (hK : ∀ v, Vw .u64 w v (Dg.digs (Dg.val l)) → K v w) : callK Tryz.prog 100 [va] w K := by
 obtain ⟨A, c, rfl, hc, hr⟩ := ha
 refine plain_spec rfl hr hL hc h63 _ fun m hm he hlen => hK _ ?_
 have := hr.take m
 rw[he] at this
 exact Vw.of hlen.symm (by omega) this
theorem and65535 {x : Int} (h0 : 0 ≤ x) (h1 : x < 4294967296) : bits .and .u32 x 65535 = x % 65536 := by
 rw[u32_and _ _ (by omega) (by omega) (by omega) (by omega)]
 have := Nat.and_two_pow_sub_one_eq_mod x.toNat 16
 rw[show (65535 : Int).toNat = 2 ^ 16 - 1 by rfl, this]
 omega
set_option maxHeartbeats 1000000 in
theorem digits_vw {w : World} {va : Value} {l : List Int} (ha : Vw .u32 w va l) (hL : Lim l) (h47 : l.length ≤ 4194304) (K : Value → World → Prop)
  (hK : ∀ v w', Gw .u64 w w' v (Dg.digs (val l)) → K v w') : callK Tryz.prog 73 [va] w K := by
 obtain ⟨A, c, rfl, hc, hr⟩ := ha
 refine call_of Tryz.func73 Code.h73 (by simp[Code.c73]) ?_
 simp(disch:=omega)only[EZ,↓EP,↓reduceIte,Za,Zb,Zc,Zd,Ze,Zf,Zg,Zj,Zk,Zl,Zm,Zn,Zp,Zq,reduceCtorEq,Code.c73]
 refine loop_inv (fun t ρ w' => ∃ (k : Nat) (v : Value), ρ 4 = .int .i64 k ∧ k ≤ l.length ∧ t = l.length - k ∧ ρ 3 = v ∧ Gw .u64 w w' v (sp (l.take k))) _ ⟨0, _, by simp(disch:=omega)only[EZ,↓EP,↓reduceIte,Za,Zb,Zc,Zd,Ze,Zf,Zg,Zj,Zk,Zl,Zm,Zn,Zp,Zq,reduceCtorEq], by omega, rfl, by simp(disch:=omega)only[EZ,↓EP,↓reduceIte,Za,Zb,Zc,Zd,Ze,Zf,Zg,Zj,Zk,Zl,Zm,Zn,Zp,Zq,reduceCtorEq], Gw.nil _ _⟩ ?_
 rintro t ρ w' hf ⟨k, v, h4, hk, rfl, h3, g⟩ N hN
 have q0 : ρ 0 = .slice A l.length c := by rw[hf 0 rfl]; simp(disch:=omega)only[EZ,↓EP,↓reduceIte,Za,Zb,Zc,Zd,Ze,Zf,Zg,Zj,Zk,Zl,Zm,Zn,Zp,Zq,reduceCtorEq]
 clear hf
 have hsl : (sp (l.take k)).length = 2 * k := by rw[sp_len,List.length_take]; omega
 by_cases hkl : (k : Int) < (l.length : Int)
 ·obtain ⟨p, rfl, _, hp⟩ := (hr.nb g.fr).get (by rw[nums_length]; omega)
  have cp := hp.numN (j := k) (by omega)
  have bx := hL.at k
  have e1 := and65535 bx.1 bx.2
  simp(disch:=omega)only[Zu,Zv,Zx,Zz,EZ,↓EP,↓reduceIte,Za,Zb,Zc,Zd,Ze,Zf,Zg,Zj,Zk,Zl,Zm,Zn,Zp,Zq,reduceCtorEq,h4,h3,q0,cp,e1]
  intro m1
  refine bsl2 fun w2 n2 => ?_
  have f2 : Fr w' w2 nob := (Fr.drewN w' _ nob).nb (n2.fr nob)
  simp(disch:=omega)only[Zu,Zv,Zx,Zz,EZ,↓EP,↓reduceIte,Za,Zb,Zc,Zd,Ze,Zf,Zg,Zj,Zk,Zl,Zm,Zn,Zp,Zq,reduceCtorEq,h3]
  intro m2
  have f3 : Fr w2 (w2.drewN m2) nob := Fr.drewN w2 m2 nob
  refine app_num ((g.sl.nb f2).nb f3) rfl (n2.rdl.nb f3) (by rw[hsl]; simp; omega) (by omega) fun v4 w4 a4 => ?_
  have g4 := ((g.step f2).step f3).apd a4
  rw[← sp_snoc l (by omega)] at g4
  simp(disch:=omega)only[Zu,Zv,Zx,Zz,EZ,↓EP,↓reduceIte,Za,Zb,Zc,Zd,Ze,Zf,Zg,Zj,Zk,Zl,Zm,Zn,Zp,Zq,reduceCtorEq,h4]
  intro m3
  exact hN (l.length - (k + 1)) _ _ (by omega) ⟨k + 1, v4, by simp(disch:=omega)only[EZ,↓EP,↓reduceIte,Za,Zb,Zc,Zd,Ze,Zf,Zg,Zj,Zk,Zl,Zm,Zn,Zp,Zq,reduceCtorEq,h4,Int.natCast_add], by omega, rfl, by simp(disch:=omega)only[EZ,↓EP,↓reduceIte,Za,Zb,Zc,Zd,Ze,Zf,Zg,Zj,Zk,Zl,Zm,Zn,Zp,Zq,reduceCtorEq], g4.step (Fr.drewN w4 m3 nob)⟩
 ·have hk : k = l.length := by omega
  subst hk
  rw[List.take_length] at g
  simp(disch:=omega)only[EZ,↓EP,↓reduceIte,Za,Zb,Zc,Zd,Ze,Zf,Zg,Zj,Zk,Zl,Zm,Zn,Zp,Zq,reduceCtorEq,h4,h3,q0]
  refine plain_gw g (sp_lim hL) (by rw[sp_len]; omega) _ fun v5 g5 => ?_
  rw[sp_val] at g5
  simp(disch:=omega)only[EZ,↓EP,↓reduceIte,Za,Zb,Zc,Zd,Ze,Zf,Zg,Zj,Zk,Zl,Zm,Zn,Zp,Zq,reduceCtorEq]
  exact hK v5 w' g5
set_option maxHeartbeats 1000000 in
theorem limbs_vw {w : World} {va : Value} {l : List Int} (ha : Vw .u64 w va l) (hL : Dg.Lim l) (h47 : l.length ≤ 16777216) (K : Value → World → Prop)
  (hK : ∀ v w', Gw .u32 w w' v (limbs (Dg.val l)) → K v w') : callK Tryz.prog 84 [va] w K := by
 refine call_of Tryz.func84 Code.h84 (by simp[Code.c84]) ?_
 simp(disch:=omega)only[EZ,↓EP,↓reduceIte,Za,Zb,Zc,Zd,Ze,Zf,Zg,Zj,Zk,Zl,Zm,Zn,Zp,Zq,reduceCtorEq,Code.c84]
 have hv0 := (Dg.val_bd hL).1
 refine plain_vw ha hL (by omega) _ fun vd hd => ?_
 have hDl : (Dg.digs (Dg.val l)).length ≤ l.length := (Dg.digs_len hv0).2 (Dg.val_bd hL).2
 have hDL := Dg.digs_lim (Dg.val l)
 have hm := mrg_digs hv0
 generalize Dg.digs (Dg.val l) = d at hd hDl hDL hm
 rw[← hm] at hK
 obtain ⟨A, c, rfl, hc, hr⟩ := hd
 simp(disch:=omega)only[EZ,↓EP,↓reduceIte,Za,Zb,Zc,Zd,Ze,Zf,Zg,Zj,Zk,Zl,Zm,Zn,Zp,Zq,reduceCtorEq]
 refine loop_inv (fun t ρ w' => ∃ (k : Nat) (v : Value) (o : List Int), ρ 4 = .int .i64 ((2 * k : Nat) : Int) ∧ 2 * k ≤ d.length + 1 ∧ t = d.length + 1 - 2 * k ∧ ρ 3 = v ∧ Gw .u32 w w' v o ∧ o.length = k ∧ o ++ mrg (d.drop (2 * k)) = mrg d) _ ⟨0, _, [], by simp(disch:=omega)only[EZ,↓EP,↓reduceIte,Za,Zb,Zc,Zd,Ze,Zf,Zg,Zj,Zk,Zl,Zm,Zn,Zp,Zq,reduceCtorEq,Nat.mul_zero,Int.natCast_zero], by omega, rfl, by simp(disch:=omega)only[EZ,↓EP,↓reduceIte,Za,Zb,Zc,Zd,Ze,Zf,Zg,Zj,Zk,Zl,Zm,Zn,Zp,Zq,reduceCtorEq], Gw.nil _ _, rfl, rfl⟩ ?_
 rintro t ρ w' hf ⟨k, v, o, h4, hk, rfl, h3, g, ho, hmk⟩ N hN
 have q0 : ρ 0 = .slice A d.length c := by rw[hf 0 rfl]; simp(disch:=omega)only[EZ,↓EP,↓reduceIte,Za,Zb,Zc,Zd,Ze,Zf,Zg,Zj,Zk,Zl,Zm,Zn,Zp,Zq,reduceCtorEq]
 clear hf
 by_cases hkl : ((2 * k : Nat) : Int) < (d.length : Int)
 ·obtain ⟨p, rfl, _, hp⟩ := (hr.nb g.fr).get (by rw[nums_length]; omega)
  have cp := hp.numN (j := 2 * k) (by omega)
  have bx := hDL.at (2 * k : Nat)
  have e2 : ((2 * k : Nat) : Int) + 2 = ((2 * (k + 1) : Nat) : Int) := by omega
  by_cases hlast : ((2 * k : Nat) : Int) + 1 < (d.length : Int)
  ·have cp1 := hp.numN (j := 2 * k + 1) (by omega)
   have by1 := hDL.at (2 * k + 1 : Nat)
   have e1 : (((2 * k : Nat) : Int) + 1).toNat = 2 * k + 1 := by omega
   have ed : d.drop (2 * k) = at' d (2 * k : Nat) :: at' d (2 * k + 1 : Nat) :: d.drop (2 * (k + 1)) := by
    rw[List.drop_eq_getElem_cons (by omega),List.drop_eq_getElem_cons (by omega),at_get (by omega),at_get (by omega)]
    rfl
   simp(disch:=omega)only[Zu,Zv,Zx,Zz,EZ,↓EP,↓reduceIte,Za,Zb,Zc,Zd,Ze,Zf,Zg,Zj,Zk,Zl,Zm,Zn,Zp,Zq,reduceCtorEq,W_join,h4,h3,q0,cp,cp1,e1]
   refine bsl1 fun w2 n2 => ?_
   simp(disch:=omega)only[Zu,Zv,Zx,Zz,EZ,↓EP,↓reduceIte,Za,Zb,Zc,Zd,Ze,Zf,Zg,Zj,Zk,Zl,Zm,Zn,Zp,Zq,reduceCtorEq,h3]
   refine app_num (g.sl.nb (n2.fr nob)) rfl n2.rdl (by simp; omega) (by omega) fun v4 w4 a4 => ?_
   have g4 := (g.step (n2.fr nob)).apd a4
   simp(disch:=omega)only[Zu,Zv,Zx,Zz,EZ,↓EP,↓reduceIte,Za,Zb,Zc,Zd,Ze,Zf,Zg,Zj,Zk,Zl,Zm,Zn,Zp,Zq,reduceCtorEq,h4,e2]
   refine hN (d.length + 1 - 2 * (k + 1)) _ _ (by omega) ⟨k + 1, v4, _, by simp(disch:=omega)only[EZ,↓EP,↓reduceIte,Za,Zb,Zc,Zd,Ze,Zf,Zg,Zj,Zk,Zl,Zm,Zn,Zp,Zq,reduceCtorEq,h4,e2], by omega, rfl, by simp(disch:=omega)only[EZ,↓EP,↓reduceIte,Za,Zb,Zc,Zd,Ze,Zf,Zg,Zj,Zk,Zl,Zm,Zn,Zp,Zq,reduceCtorEq], g4, by simp[ho], ?_⟩
   rw[← hmk,ed,mrg,List.append_assoc,List.singleton_append]
   congr 2
   omega
  ·have ed : d.drop (2 * k) = [at' d (2 * k : Nat)] := by
    rw[List.drop_eq_getElem_cons (by omega),at_get (by omega),List.drop_of_length_le (by omega)]
   have ed2 : d.drop (2 * (k + 1)) = [] := List.drop_of_length_le (by omega)
   simp(disch:=omega)only[Zu,Zv,Zx,Zz,EZ,↓EP,↓reduceIte,Za,Zb,Zc,Zd,Ze,Zf,Zg,Zj,Zk,Zl,Zm,Zn,Zp,Zq,reduceCtorEq,W_join,h4,h3,q0,cp]
   refine bsl1 fun w2 n2 => ?_
   simp(disch:=omega)only[Zu,Zv,Zx,Zz,EZ,↓EP,↓reduceIte,Za,Zb,Zc,Zd,Ze,Zf,Zg,Zj,Zk,Zl,Zm,Zn,Zp,Zq,reduceCtorEq,h3]
   refine app_num (g.sl.nb (n2.fr nob)) rfl n2.rdl (by simp; omega) (by omega) fun v4 w4 a4 => ?_
   have g4 := (g.step (n2.fr nob)).apd a4
   simp(disch:=omega)only[Zu,Zv,Zx,Zz,EZ,↓EP,↓reduceIte,Za,Zb,Zc,Zd,Ze,Zf,Zg,Zj,Zk,Zl,Zm,Zn,Zp,Zq,reduceCtorEq,h4,e2]
   refine hN (d.length + 1 - 2 * (k + 1)) _ _ (by omega) ⟨k + 1, v4, _, by simp(disch:=omega)only[EZ,↓EP,↓reduceIte,Za,Zb,Zc,Zd,Ze,Zf,Zg,Zj,Zk,Zl,Zm,Zn,Zp,Zq,reduceCtorEq,h4,e2], by omega, rfl, by simp(disch:=omega)only[EZ,↓EP,↓reduceIte,Za,Zb,Zc,Zd,Ze,Zf,Zg,Zj,Zk,Zl,Zm,Zn,Zp,Zq,reduceCtorEq], g4, by simp[ho], ?_⟩
   rw[← hmk,ed,ed2]; simp[mrg]
 ·have e0 : d.drop (2 * k) = [] := List.drop_of_length_le (by omega)
  rw[e0,mrg,List.append_nil] at hmk
  rw[hmk] at g
  simp(disch:=omega)only[EZ,↓EP,↓reduceIte,Za,Zb,Zc,Zd,Ze,Zf,Zg,Zj,Zk,Zl,Zm,Zn,Zp,Zq,reduceCtorEq,h4,h3,q0]
  exact hK v w' g
end Go.Proofs.YtcgplgpdcfocpaaGreatDoor.Spec
end
section
namespace Go.Proofs.YtcgplgpdcfocpaaGreatDoor.Spec
open Go Go.RowKit Go.Proofs Go.Proofs.YtcgplgpdcfocpaaGreatDoor.Eng Go.Proofs.YtcgplgpdcfocpaaGreatDoor.Code Go.Proofs.YtcgplgpdcfocpaaGreatDoor.Big
attribute [local irreducible] callK S.W opsW scrW
theorem dmul_bd {a b : Int} (ha : 0 ≤ a ∧ a < 65536) (hb : 0 ≤ b ∧ b < 65536) : 0 ≤ a * b ∧ a * b ≤ 4294836225 := by
 refine ⟨Int.mul_nonneg ha.1 hb.1, ?_⟩
 have := Int.mul_le_mul (show a ≤ 65535 by omega) (show b ≤ 65535 by omega) hb.1 (by omega)
 omega
theorem dval_step {o : List Int} {k : Nat} {x y : Int} (h : k < o.length) : Dg.val ((o.set k x).take (k + 1)) + y * Dg.pw (k + 1) = Dg.val (o.take k) + (x + 65536 * y) * Dg.pw k := by
 rw[Dg.val_take_set h,Dg.pw_succ]; grind
set_option maxHeartbeats 1000000 in
theorem dmul_vw {w : World} {va vb : Value} {l r : List Int} (ha : Vw .u64 w va l) (hb : Vw .u64 w vb r) (hL : Dg.Lim l) (hR : Dg.Lim r) (hn' : l.length ≤ 16777216) (hm' : r.length ≤ 16777216) (K : Value → World → Prop)
  (hK : ∀ v w', Gw .u64 w w' v (Dg.digs (Dg.val l * Dg.val r)) → K v w') : callK Tryz.prog 90 [va, vb] w K := by
 obtain ⟨A, c, rfl, hc, hl⟩ := ha
 obtain ⟨B, d, rfl, hd, hr⟩ := hb
 refine call_of Tryz.func90 Code.h90 (by simp[Code.c90]) ?_
 simp(disch:=omega)only[EZ,↓EP,↓reduceIte,Za,Zb,Zc,Zd,Ze,Zf,Zg,Zj,Zk,Zl,Zm,Zn,Zp,Zq,reduceCtorEq,Code.c90]
 have eN : ((l.length : Int) + (r.length : Int)).toNat = l.length + r.length := by omega
 refine al_k (nums .u64 (List.replicate (l.length + r.length) 0)) (by rw[madeCells_list,nums_replicate,eN]) fun w1 n1 => ?_
 simp(disch:=omega)only[EZ,↓EP,↓reduceIte,Za,Zb,Zc,Zd,Ze,Zf,Zg,Zj,Zk,Zl,Zm,Zn,Zp,Zq,reduceCtorEq,eN]
 refine loop_inv (fun t ρ w2 => ∃ (i : Nat) (o : List Int), ρ 6 = .int .i64 i ∧ i ≤ l.length ∧ t = l.length - i ∧ Blk w2 w.heap.size (nums .u64 o) ∧ o.length = l.length + r.length ∧ Dg.Lim o ∧ Dg.val (o.take (i + r.length)) = Dg.val (l.take i) * Dg.val r ∧ Fr w w2 nob) _
  ⟨0, List.replicate (l.length + r.length) 0, by simp(disch:=omega)only[EZ,↓EP,↓reduceIte,Za,Zb,Zc,Zd,Ze,Zf,Zg,Zj,Zk,Zl,Zm,Zn,Zp,Zq,reduceCtorEq], by omega, rfl, n1.blk, by simp, Dg.Lim.zeros _, by simp[Dg.val_nil,Dg.val_zeros,List.take_replicate], n1.fr nob⟩ ?_
 rintro t ρ w2 hf ⟨i, o0, h6, hi, rfl, hB0, ho0, hO0, hv0, f2⟩ N hN
 have q0 : ρ 0 = .slice A l.length c := by rw[hf 0 rfl]; simp(disch:=omega)only[EZ,↓EP,↓reduceIte,Za,Zb,Zc,Zd,Ze,Zf,Zg,Zj,Zk,Zl,Zm,Zn,Zp,Zq,reduceCtorEq]
 have q1 : ρ 1 = .slice B r.length d := by rw[hf 1 rfl]; simp(disch:=omega)only[EZ,↓EP,↓reduceIte,Za,Zb,Zc,Zd,Ze,Zf,Zg,Zj,Zk,Zl,Zm,Zn,Zp,Zq,reduceCtorEq]
 have q5 : ρ 5 = .slice (some ⟨w.heap.size, 0, none⟩) (l.length + r.length) (l.length + r.length) := by rw[hf 5 rfl]; simp(disch:=omega)only[EZ,↓EP,↓reduceIte,Za,Zb,Zc,Zd,Ze,Zf,Zg,Zj,Zk,Zl,Zm,Zn,Zp,Zq,reduceCtorEq,eN]
 clear hf
 by_cases hil : (i : Int) < (l.length : Int)
 ·have bx := hL.at i
  simp(disch:=omega)only[EZ,↓EP,↓reduceIte,Za,Zb,Zc,Zd,Ze,Zf,Zg,Zj,Zk,Zl,Zm,Zn,Zp,Zq,reduceCtorEq,h6,q0,q1,q5]
  refine loop_inv (fun t ρ2 w3 => ∃ (k : Nat) (o : List Int) (cr : Int), ρ2 8 = .int .i64 k ∧ k ≤ r.length ∧ t = r.length - k ∧ ρ2 7 = .int .u64 cr ∧ 0 ≤ cr ∧ cr < 65536 ∧ Blk w3 w.heap.size (nums .u64 o) ∧ o.length = l.length + r.length ∧ Dg.Lim o ∧ Dg.val (o.take (i + k)) + cr * Dg.pw (i + k) = Dg.val (o0.take (i + k)) + at' l i * Dg.val (r.take k) * Dg.pw i ∧ (∀ j : Nat, i + k ≤ j → at' o j = at' o0 j) ∧ Fr w w3 nob) _
   ⟨0, o0, 0, by simp(disch:=omega)only[EZ,↓EP,↓reduceIte,Za,Zb,Zc,Zd,Ze,Zf,Zg,Zj,Zk,Zl,Zm,Zn,Zp,Zq,reduceCtorEq], by omega, rfl, by simp(disch:=omega)only[EZ,↓EP,↓reduceIte,Za,Zb,Zc,Zd,Ze,Zf,Zg,Zj,Zk,Zl,Zm,Zn,Zp,Zq,reduceCtorEq], by omega, by omega, hB0, ho0, hO0, by simp[Dg.val_nil], fun _ _ => rfl, f2⟩ ?_
  rintro t ρ2 w3 hf ⟨k, o, cr, h8, hk, rfl, h7, hc0, hc1, hB, ho, hO, hv, hsame, f3⟩ N2 hN2
  have p0 : ρ2 0 = .slice A l.length c := by rw[hf 0 rfl]; simp(disch:=omega)only[EZ,↓EP,↓reduceIte,Za,Zb,Zc,Zd,Ze,Zf,Zg,Zj,Zk,Zl,Zm,Zn,Zp,Zq,reduceCtorEq,q0]
  have p1 : ρ2 1 = .slice B r.length d := by rw[hf 1 rfl]; simp(disch:=omega)only[EZ,↓EP,↓reduceIte,Za,Zb,Zc,Zd,Ze,Zf,Zg,Zj,Zk,Zl,Zm,Zn,Zp,Zq,reduceCtorEq,q1]
  have p5 : ρ2 5 = .slice (some ⟨w.heap.size, 0, none⟩) (l.length + r.length) (l.length + r.length) := by rw[hf 5 rfl]; simp(disch:=omega)only[EZ,↓EP,↓reduceIte,Za,Zb,Zc,Zd,Ze,Zf,Zg,Zj,Zk,Zl,Zm,Zn,Zp,Zq,reduceCtorEq,q5]
  have p6 : ρ2 6 = .int .i64 i := by rw[hf 6 rfl]; simp(disch:=omega)only[EZ,↓EP,↓reduceIte,Za,Zb,Zc,Zd,Ze,Zf,Zg,Zj,Zk,Zl,Zm,Zn,Zp,Zq,reduceCtorEq,h6]
  clear hf
  by_cases hkr : (k : Int) < (r.length : Int)
  ·obtain ⟨p, rfl, _, hp⟩ := (hl.nb f3).get (by rw[nums_length]; omega)
   have cp := hp.numN (j := i) (by omega)
   obtain ⟨q, rfl, _, hq⟩ := (hr.nb f3).get (by rw[nums_length]; omega)
   have cq := hq.numN (j := k) (by omega)
   have co := hB.numN (j := i + k) (by omega)
   have by' := hR.at k
   have bo := hO.at (i + k : Nat)
   have hm := dmul_bd bx by'
   have eik : ((i : Int) + (k : Int)).toNat = i + k := by omega
   have e1 := Dg.val_take_succ' r k
   have e2 := Dg.val_take_succ' o0 (i + k)
   have e3 := hsame (i + k) (Nat.le_refl _)
   rw[← e3] at e2
   have qT : ∃ T, T = at' o (i + k : Nat) + at' l i * at' r k + cr := ⟨_, rfl⟩
   obtain ⟨T, hT⟩ := qT
   have hT0 : 0 ≤ T ∧ T < 4294967296 := by omega
   simp(disch:=omega)only[Zu,Zv,Zx,Zz,EZ,↓EP,↓reduceIte,Za,Zb,Zc,Zd,Ze,Zf,Zg,Zj,Zk,Zl,Zm,Zn,Zp,Zq,reduceCtorEq,h8,h7,p0,p1,p5,p6,cp,cq,co,eik,← hT]
   intro m1
   refine st_num (hB.drewN m1) (by omega) fun w4 p4 => ?_
   have e4 := dval_step (o := o) (k := i + k) (x := T % 65536) (y := T / 65536) (by omega)
   simp(disch:=omega)only[Zu,Zv,Zx,Zz,EZ,↓EP,↓reduceIte,Za,Zb,Zc,Zd,Ze,Zf,Zg,Zj,Zk,Zl,Zm,Zn,Zp,Zq,reduceCtorEq,h8]
   refine hN2 (r.length - (k + 1)) _ _ (by omega) ⟨k + 1, _, T / 65536, by simp(disch:=omega)only[EZ,↓EP,↓reduceIte,Za,Zb,Zc,Zd,Ze,Zf,Zg,Zj,Zk,Zl,Zm,Zn,Zp,Zq,reduceCtorEq,h8,Int.natCast_add], by omega, rfl, by simp(disch:=omega)only[EZ,↓EP,↓reduceIte,Za,Zb,Zc,Zd,Ze,Zf,Zg,Zj,Zk,Zl,Zm,Zn,Zp,Zq,reduceCtorEq,hT], by omega, by omega, p4.blk, by rw[List.length_set]; exact ho, hO.set _ (by omega) (by omega), ?_, ?_, (f3.nb (Fr.drewN w3 m1 nob)).own p4.fr fun x e => by omega⟩
   ·rw[show i + (k + 1) = i + k + 1 by omega, e4, e1, e2, Dg.pw_add] 
    rw[Dg.pw_add] at hv
    have := Int.mul_ediv_add_emod T 65536
    grind
   ·intro j hj
    rw[at_setO (by omega)]
    exact hsame j (by omega)
  ·have hk : k = r.length := by omega
   subst hk
   have e1 := Dg.val_take_succ' l i
   have eik : ((i : Int) + (r.length : Int)).toNat = i + r.length := by omega
   simp(disch:=omega)only[Zu,Zv,Zx,Zz,EZ,↓EP,↓reduceIte,Za,Zb,Zc,Zd,Ze,Zf,Zg,Zj,Zk,Zl,Zm,Zn,Zp,Zq,reduceCtorEq,h8,h7,p1,p5,p6,eik]
   refine st_num hB (by omega) fun w4 p4 => ?_
   simp(disch:=omega)only[Zu,Zv,Zx,Zz,EZ,↓EP,↓reduceIte,Za,Zb,Zc,Zd,Ze,Zf,Zg,Zj,Zk,Zl,Zm,Zn,Zp,Zq,reduceCtorEq,p6]
   refine hN (l.length - (i + 1)) _ _ (by omega) ⟨i + 1, _, by simp(disch:=omega)only[EZ,↓EP,↓reduceIte,Za,Zb,Zc,Zd,Ze,Zf,Zg,Zj,Zk,Zl,Zm,Zn,Zp,Zq,reduceCtorEq,p6,Int.natCast_add], by omega, rfl, p4.blk, by rw[List.length_set]; exact ho, hO.set _ (by omega) (by omega), ?_, f3.own p4.fr fun x e => by omega⟩
   rw[show i + 1 + r.length = i + r.length + 1 by omega, Dg.val_take_set (by omega), hv, hv0, e1, List.take_length]
   grind
 ·have hi : i = l.length := by omega
  subst hi
  simp(disch:=omega)only[EZ,↓EP,↓reduceIte,Za,Zb,Zc,Zd,Ze,Zf,Zg,Zj,Zk,Zl,Zm,Zn,Zp,Zq,reduceCtorEq,h6,q0,q5]
  rw[← ho0,List.take_length,List.take_length] at hv0
  have g : Gw .u64 w w2 (.slice (some ⟨w.heap.size, 0, none⟩) (l.length + r.length) (l.length + r.length)) o0 := own_cut hB0 (Nat.le_refl _) f2 ho0 (Nat.le_refl _) (by rw[← ho0,List.take_length])
  refine plain_gw g hO0 (by omega) _ fun v g5 => ?_
  rw[hv0] at g5
  simp(disch:=omega)only[EZ,↓EP,↓reduceIte,Za,Zb,Zc,Zd,Ze,Zf,Zg,Zj,Zk,Zl,Zm,Zn,Zp,Zq,reduceCtorEq]
  exact hK v w2 g5
end Go.Proofs.YtcgplgpdcfocpaaGreatDoor.Spec
end
section
namespace Go.Proofs.YtcgplgpdcfocpaaGreatDoor.Spec
open Go Go.RowKit Go.Proofs Go.Proofs.YtcgplgpdcfocpaaGreatDoor.Eng Go.Proofs.YtcgplgpdcfocpaaGreatDoor.Code
structure Lnt (k : IntKind) (w0 w : World) (v : Value) (l : List Int) (x y : Int) : Prop where
 ex : ∃ b pad, v = .slice (some ⟨b, 0, none⟩) l.length (l.length + (2 + pad.length)) ∧ Blk w b (nums k (l ++ [x, y] ++ pad)) ∧ w0.heap.size ≤ b
theorem Lnt.fr {k : IntKind} {w0 w w' : World} {v : Value} {l : List Int} {x y : Int} (h : Lnt k w0 w v l x y) {P : Nat → Prop} (f : Fr w w' P) (hp : ∀ b, blkOf v = some b → ¬ P b) : Lnt k w0 w' v l x y := by
 obtain ⟨b, pad, rfl, hB, hb⟩ := h.ex
 exact ⟨b, pad, rfl, hB.fr f (hp b rfl), hb⟩
theorem Lnt.read {k : IntKind} {w0 w : World} {v : Value} {l : List Int} {x y : Int} (h : Lnt k w0 w v l x y) : ∃ b c, v = .slice (some ⟨b, 0, none⟩) l.length c ∧ l.length + 2 ≤ c ∧ w0.heap.size ≤ b ∧ Rd w (some ⟨b, 0, none⟩) (nums k l) := by
 obtain ⟨b, pad, rfl, hB, hb⟩ := h.ex
 exact ⟨b, _, rfl, by omega, hb, hB.rd 0 (n := l.length) (by rw[List.drop_zero,nums_take]; simp)⟩
end Go.Proofs.YtcgplgpdcfocpaaGreatDoor.Spec
end
section
namespace Go.Proofs.YtcgplgpdcfocpaaGreatDoor.Spec
open Go Go.RowKit Go.Proofs Go.Proofs.YtcgplgpdcfocpaaGreatDoor.Eng Go.Proofs.YtcgplgpdcfocpaaGreatDoor.Code Go.Proofs.YtcgplgpdcfocpaaGreatDoor.Big
attribute [local irreducible] callK S.W opsW scrW
theorem rlong_spec {w : World} {A B : Option Addr} {n c m d : Nat} {most : Int} (hm : -9223372036854775808 ≤ most ∧ most ≤ 9223372036854775807) (K : Value → World → Prop)
  (hK : K (.bool (decide (most < (n : Int)) || decide (most < (m : Int)))) w) : callK Tryz.prog 86 [.int .i64 most, .slice A n c, .slice B m d] w K := by
 refine call_of Tryz.func86 Code.h86 (by simp[Code.c86]) ?_
 by_cases h1 : most < (n : Int)
 ·rw[decide_eq_true h1,Bool.true_or] at hK
  simp(disch:=omega)only[EZ,↓EP,↓reduceIte,Za,Zb,Zc,Zd,Ze,Zf,Zg,Zj,Zk,Zl,Zm,Zn,Zp,Zq,reduceCtorEq,Code.c86]
  exact hK
 ·by_cases h2 : most < (m : Int)
  ·rw[decide_eq_true h2,Bool.or_true] at hK
   simp(disch:=omega)only[EZ,↓EP,↓reduceIte,Za,Zb,Zc,Zd,Ze,Zf,Zg,Zj,Zk,Zl,Zm,Zn,Zp,Zq,reduceCtorEq,Code.c86]
   exact hK
  ·rw[decide_eq_false h1,decide_eq_false h2] at hK
   simp(disch:=omega)only[EZ,↓EP,↓reduceIte,Za,Zb,Zc,Zd,Ze,Zf,Zg,Zj,Zk,Zl,Zm,Zn,Zp,Zq,reduceCtorEq,Code.c86]
   exact hK
theorem rlong_vw {w : World} {va vb : Value} {k : IntKind} {l r : List Int} (ha : Vw k w va l) (hb : Vw k w vb r) (most : Int) (hm : -9223372036854775808 ≤ most ∧ most ≤ 9223372036854775807) (K : Value → World → Prop)
  (hK : ∀ b : Bool, (b = true ↔ most < (l.length : Int) ∨ most < (r.length : Int)) → K (.bool b) w) : callK Tryz.prog 86 [.int .i64 most, va, vb] w K := by
 obtain ⟨A, c, rfl, hc, hl⟩ := ha
 obtain ⟨B, d, rfl, hd, hr⟩ := hb
 exact rlong_spec hm K (hK _ (by simp))
theorem Gw.slice {k : IntKind} {w w' : World} {v : Value} {l : List Int} (g : Gw k w w' v l) : ∃ B d, v = .slice B l.length d := by
 obtain ⟨B, d, e, _⟩ := g.vw
 exact ⟨B, d, e⟩
theorem Lnt.vw {k : IntKind} {w0 w : World} {v : Value} {l : List Int} {x y : Int} (h : Lnt k w0 w v l x y) : Vw k w v l := by
 obtain ⟨b, c, rfl, hc, _, hr⟩ := h.read
 exact ⟨_, c, rfl, by omega, hr⟩
theorem Lnt.nb {k : IntKind} {w0 w w' : World} {v : Value} {l : List Int} {x y : Int} (h : Lnt k w0 w v l x y) (f : Fr w w' nob) : Lnt k w0 w' v l x y := h.fr f fun _ _ e => e
end Go.Proofs.YtcgplgpdcfocpaaGreatDoor.Spec
end
