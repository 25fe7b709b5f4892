/- The document's digests: the schedule of words, ring and row. -/
import Derived.Test.YtibccpfocbdmaaaDoorRe1
set_option linter.unusedVariables false
set_option linter.unusedSimpArgs false
namespace Go.Proofs.YtibccpfocbdmaaaDoor.Spec
open Go Go.RowKit Go.Proofs Go.Proofs.YtibccpfocbdmaaaDoor.Eng Go.Proofs.YtibccpfocbdmaaaDoor.Code
set_option maxRecDepth 100000

theorem at_nat' (l : List Int) (i : Nat) : at' l (i : Int) = l.getD i 0 := by unfold at'; rw [Int.toNat_natCast]
theorem at_setN (l : List Int) (i j : Nat) (x : Int) (hi : i < l.length) : at' (l.set i x) (j : Int) = if i = j then x else at' l (j : Int) := by
  have := at_set l (i : Int) (j : Int) x (by omega) (by omega) (by omega)
  rw [Int.toNat_natCast] at this
  rw [this]
  split <;> split <;> first | rfl | omega
/-- A ring of sixteen words, of which each round sets one. -/
structure Ring (f : Nat → List Int → List Int) : Prop where
  len : ∀ t l, (f t l).length = l.length
  off : ∀ t l (j : Nat), l.length = 16 → j < 16 → j ≠ t % 16 → at' (f t l) (j : Int) = at' l (j : Int)
def wrd (f : Nat → List Int → List Int) (l : List Int) (t : Nat) : Int := at' (rounds f (t + 1) l) ((t % 16 : Nat) : Int)
theorem ring_len {f : Nat → List Int → List Int} (h : Ring f) {l : List Int} (hl : l.length = 16) : ∀ t, (rounds f t l).length = 16
  | 0 => hl
  | t + 1 => by rw [rounds, h.len, ring_len h hl t]
theorem ring_at {f : Nat → List Int → List Int} (h : Ring f) {l : List Int} (hl : l.length = 16) : ∀ (t i : Nat), i < t → t ≤ i + 16 → at' (rounds f t l) ((i % 16 : Nat) : Int) = wrd f l i
  | 0, i, h1, _ => by omega
  | t + 1, i, h1, h2 => by
    by_cases e : i = t
    · subst e; rfl
    · rw [rounds, h.off t _ _ (ring_len h hl t) (by omega) (by omega)]
      exact ring_at h hl t i (by omega) (by omega)
theorem ring_first {f : Nat → List Int → List Int} (h : Ring f) {l : List Int} (hl : l.length = 16) : ∀ (t i : Nat), t ≤ i → i < 16 → at' (rounds f t l) (i : Int) = at' l (i : Int)
  | 0, i, _, _ => rfl
  | t + 1, i, h1, h2 => by
    rw [rounds, h.off t _ _ (ring_len h hl t) (by omega) (by omega)]
    exact ring_first h hl t i (by omega) h2

/-- A row of words that is filled. -/
def rowN (f : Nat → Int) (n k : Nat) : List Int := (List.range k).map f ++ List.replicate (n - k) 0
theorem rowN_len (f : Nat → Int) {n k : Nat} (h : k ≤ n) : (rowN f n k).length = n := by simp [rowN]; omega
theorem rowN_at (f : Nat → Int) {n k j : Nat} (h : j < k) : at' (rowN f n k) (j : Int) = f j := by
  rw [at_nat', rowN, List.getD_eq_getElem?_getD, List.getElem?_append_left (by simpa using h)]
  simp [h]
theorem rowN_next (f : Nat → Int) {n k : Nat} (h : k < n) : at' (rowN f n k) (k : Int) = 0 := by
  rw [at_nat', rowN, List.getD_eq_getElem?_getD, List.getElem?_append_right (by simp)]
  simp [show 0 < n - k by omega]
theorem rowN_set (f : Nat → Int) {n k : Nat} (h : k < n) : (rowN f n k).set k (f k) = rowN f n (k + 1) := by
  rw [rowN, rowN, List.set_append_right _ _ (by simp), List.range_succ, List.map_append]
  simp only [List.length_map, List.length_range, Nat.sub_self]
  rw [show n - k = (n - (k + 1)) + 1 by omega, List.replicate_succ, List.set_cons_zero]
  simp

/-! ### SHA-1 -/
theorem oneW_ring : Ring oneW := by
  refine ⟨oneW_len, fun t l j hl hj hne => ?_⟩
  unfold oneW
  split
  · rfl
  · rw [show ((t : Int) % 16).toNat = t % 16 by omega, at_setN _ _ _ _ (by omega), if_neg (by omega)]
theorem oneS_w (s : St) : ∀ t, (rounds oneStep t s).w = rounds oneW t s.w
  | 0 => rfl
  | t + 1 => by rw [rounds, rounds, ← oneS_w s t]; rfl
theorem wordsK_at (p : List Int) : ∀ (k : Nat), k ≤ 16 → ∀ i : Nat, i < k → at' (rounds (fun i l => l.set i (wordAt p i)) k (zs 16)) (i : Int) = wordAt p i
  | 0, _, i, h => by omega
  | k + 1, hk, i, h => by
    rw [rounds, at_setN _ _ _ _ (by rw [rounds_len _ (fun n l => by simp)]; simp [zs]; omega)]
    split
    · rename_i e; rw [e]
    · exact wordsK_at p k (by omega) i (by omega)
theorem words_at (p : List Int) {i : Nat} (h : i < 16) : at' (words p) (i : Int) = wordAt p i := by
  unfold words; exact wordsK_at p 16 (by omega) i h
def oneWd (p : List Int) (t : Nat) : Int := wrd oneW (words p) t
theorem oneWd_lo {p : List Int} {t : Nat} (h : t < 16) : oneWd p t = wordAt p t := by
  unfold oneWd wrd
  rw [rounds, show t % 16 = t by omega]
  have e : ∀ l, oneW t l = l := fun l => by unfold oneW; rw [if_pos (by omega)]
  rw [e, ring_first oneW_ring (words_len p) t t (by omega) h, words_at p h]
theorem oneWd_hi {p : List Int} {t : Nat} (h : 16 ≤ t) : oneWd p t = rl32 (x32 (x32 (x32 (oneWd p (t - 3)) (oneWd p (t - 8))) (oneWd p (t - 14))) (oneWd p (t - 16))) 1 := by
  have hl := ring_len oneW_ring (words_len p) t
  have g : ∀ d, 0 < d → d ≤ 16 → at' (rounds oneW t (words p)) (((t - d) % 16 : Nat) : Int) = oneWd p (t - d) := fun d h1 h2 => ring_at oneW_ring (words_len p) t (t - d) (by omega) (by omega)
  have g3 := g 3 (by omega) (by omega)
  have g8 := g 8 (by omega) (by omega)
  have g14 := g 14 (by omega) (by omega)
  have g16 := g 16 (by omega) (by omega)
  conv => lhs; unfold oneWd wrd
  rw [rounds, oneW, if_neg (by omega), show ((t : Int) % 16).toNat = t % 16 by omega, at_setN _ _ _ _ (by omega), if_pos rfl]
  rw [show ((t : Int) % 16 + 13) % 16 = ((t - 3) % 16 : Nat) by omega, show ((t : Int) % 16 + 8) % 16 = ((t - 8) % 16 : Nat) by omega, show ((t : Int) % 16 + 2) % 16 = ((t - 14) % 16 : Nat) by omega, show ((t : Int) % 16) = ((t - 16) % 16 : Nat) by omega, g3, g8, g14, g16]
theorem oneWd_step (h p : List Int) (t : Nat) : at' (oneW t (rounds oneStep t (oneInit h p)).w) ((t : Int) % 16) = oneWd p t := by
  rw [oneS_w]
  unfold oneWd wrd
  rw [rounds, show ((t % 16 : Nat) : Int) = (t : Int) % 16 by omega]; rfl

/-! ### SHA-256 -/
theorem twoW_ring : Ring twoW := by
  refine ⟨twoW_len, fun t l j hl hj hne => ?_⟩
  unfold twoW
  split
  · rfl
  · rw [show ((t : Int) % 16).toNat = t % 16 by omega, at_setN _ _ _ _ (by omega), if_neg (by omega)]
theorem twoS_w (s : S32) : ∀ t, (rounds twoStep t s).w = rounds twoW t s.w
  | 0 => rfl
  | t + 1 => by rw [rounds, rounds, ← twoS_w s t]; rfl
def twoWd (p : List Int) (t : Nat) : Int := wrd twoW (words p) t
theorem twoWd_lo {p : List Int} {t : Nat} (h : t < 16) : twoWd p t = wordAt p t := by
  unfold twoWd wrd
  rw [rounds, show t % 16 = t by omega]
  have e : ∀ l, twoW t l = l := fun l => by unfold twoW; rw [if_pos (by omega)]
  rw [e, ring_first twoW_ring (words_len p) t t (by omega) h, words_at p h]
theorem s32_turn (a b c d : Int) : s32 a (s32 (s32 b c) d) = s32 (s32 (s32 b c) d) a := by
  unfold s32; rw [Int.add_comm]
theorem twoWd_hi {p : List Int} {t : Nat} (h : 16 ≤ t) : twoWd p t = s32 (s32 (s32 (tn32 (twoWd p (t - 2)) 17 19 10 true) (twoWd p (t - 7))) (tn32 (twoWd p (t - 15)) 7 18 3 true)) (twoWd p (t - 16)) := by
  have hl := ring_len twoW_ring (words_len p) t
  have g : ∀ d, 0 < d → d ≤ 16 → at' (rounds twoW t (words p)) (((t - d) % 16 : Nat) : Int) = twoWd p (t - d) := fun d h1 h2 => ring_at twoW_ring (words_len p) t (t - d) (by omega) (by omega)
  have g2 := g 2 (by omega) (by omega)
  have g7 := g 7 (by omega) (by omega)
  have g15 := g 15 (by omega) (by omega)
  have g16 := g 16 (by omega) (by omega)
  conv => lhs; unfold twoWd wrd
  rw [rounds, twoW, if_neg (by omega), show ((t : Int) % 16).toNat = t % 16 by omega, at_setN _ _ _ _ (by omega), if_pos rfl]
  rw [show ((t : Int) % 16 + 14) % 16 = ((t - 2) % 16 : Nat) by omega, show ((t : Int) % 16 + 9) % 16 = ((t - 7) % 16 : Nat) by omega, show ((t : Int) % 16 + 1) % 16 = ((t - 15) % 16 : Nat) by omega, show ((t : Int) % 16) = ((t - 16) % 16 : Nat) by omega, g2, g7, g15, g16, s32_turn]
theorem twoWd_step (h p : List Int) (t : Nat) : at' (twoW t (rounds twoStep t (twoInit h p)).w) ((t : Int) % 16) = twoWd p t := by
  rw [twoS_w]
  unfold twoWd wrd
  rw [rounds, show ((t % 16 : Nat) : Int) = (t : Int) % 16 by omega]; rfl

/-! ### SHA-512 -/
theorem wideW_ring : Ring wideW := by
  refine ⟨wideW_len, fun t l j hl hj hne => ?_⟩
  unfold wideW
  split
  · rfl
  · rw [show ((t : Int) % 16).toNat = t % 16 by omega, at_setN _ _ _ _ (by omega), if_neg (by omega)]
theorem wideS_w (s : S64) : ∀ t, (rounds wideStep t s).w = rounds wideW t s.w
  | 0 => rfl
  | t + 1 => by rw [rounds, rounds, ← wideS_w s t]; rfl
def wideWd (p : List Int) (t : Nat) : Int := wrd wideW (wwords p) t
/-- A word of eight bytes, byte by byte. -/
def wpart (p : List Int) (t : Nat) : Nat → Int
  | 0 => 0
  | i + 1 => IntKind.u64.wrap (IntKind.u64.wrap (wpart p t i * 256) + IntKind.u64.wrap (at' p ((8 * t + i : Nat) : Int)))
def byteL (p : List Int) : Prop := ∀ i : Nat, 0 ≤ at' p (i : Int) ∧ at' p (i : Int) < 256
theorem wwords_at {p : List Int} (hb : byteL p) : ∀ (k : Nat), k ≤ 128 → ∀ i : Nat, i < 16 → at' (rounds (wwStep p) k (zs 16)) (i : Int) = wpart p i (min (k - 8 * i) 8)
  | 0, _, i, h => by
    rw [show min (0 - 8 * i) 8 = 0 by omega, rounds, at_nat']
    simp [zs, wpart, h, List.getD_eq_getElem?_getD, -List.reduceReplicate]
  | k + 1, hk, i, h => by
    have ih := wwords_at hb k (by omega)
    rw [rounds, wwStep, show ((k : Int) / 8).toNat = k / 8 by omega, at_setN _ _ _ _ (by rw [wwr_len]; omega)]
    split
    · rename_i e
      subst e
      rw [show (k : Int) / 8 = (k / 8 : Nat) by omega, ih (k / 8) (by omega), byte_in (hb k), show min (k + 1 - 8 * (k / 8)) 8 = (k % 8) + 1 by omega, show min (k - 8 * (k / 8)) 8 = k % 8 by omega, wpart, show 8 * (k / 8) + k % 8 = k by omega]
    · rw [ih i h]
      congr 1; omega
theorem wideWd_lo {p : List Int} (hb : byteL p) {t : Nat} (h : t < 16) : wideWd p t = wpart p t 8 := by
  unfold wideWd wrd
  rw [rounds, show t % 16 = t by omega]
  have e : ∀ l, wideW t l = l := fun l => by unfold wideW; rw [if_pos (by omega)]
  rw [e, ring_first wideW_ring (wwords_len p) t t (by omega) h]
  unfold wwords
  rw [wwords_at hb 128 (by omega) t h, show min (128 - 8 * t) 8 = 8 by omega]
theorem s64_turn (a b c d : Int) : s64 a (s64 (s64 b c) d) = s64 (s64 (s64 b c) d) a := by
  unfold s64; rw [Int.add_comm]
theorem wideWd_hi {p : List Int} {t : Nat} (h : 16 ≤ t) : wideWd p t = s64 (s64 (s64 (tn64 (wideWd p (t - 2)) 19 61 6 true) (wideWd p (t - 7))) (tn64 (wideWd p (t - 15)) 1 8 7 true)) (wideWd p (t - 16)) := by
  have hl := ring_len wideW_ring (wwords_len p) t
  have g : ∀ d, 0 < d → d ≤ 16 → at' (rounds wideW t (wwords p)) (((t - d) % 16 : Nat) : Int) = wideWd p (t - d) := fun d h1 h2 => ring_at wideW_ring (wwords_len p) t (t - d) (by omega) (by omega)
  have g2 := g 2 (by omega) (by omega)
  have g7 := g 7 (by omega) (by omega)
  have g15 := g 15 (by omega) (by omega)
  have g16 := g 16 (by omega) (by omega)
  conv => lhs; unfold wideWd wrd
  rw [rounds, wideW, if_neg (by omega), show ((t : Int) % 16).toNat = t % 16 by omega, at_setN _ _ _ _ (by omega), if_pos rfl]
  rw [show ((t : Int) % 16 + 14) % 16 = ((t - 2) % 16 : Nat) by omega, show ((t : Int) % 16 + 9) % 16 = ((t - 7) % 16 : Nat) by omega, show ((t : Int) % 16 + 1) % 16 = ((t - 15) % 16 : Nat) by omega, show ((t : Int) % 16) = ((t - 16) % 16 : Nat) by omega, g2, g7, g15, g16, s64_turn]
theorem wideWd_step (h p : List Int) (t : Nat) : at' (wideW t (rounds wideStep t (wideInit h p)).w) ((t : Int) % 16) = wideWd p t := by
  rw [wideS_w]
  unfold wideWd wrd
  rw [rounds, show ((t % 16 : Nat) : Int) = (t : Int) % 16 by omega]; rfl
end Go.Proofs.YtibccpfocbdmaaaDoor.Spec
