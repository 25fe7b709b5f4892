/- RsaPads: the row and the tied card: whatever the bytes and the numbers, the program's padding is the document's, and the bytes stay; no condition. -/
import Derived.Test.YtcgplgpdcfocpaaDoorCards
import Derived.Test.YtcgplgpdcfocpaaDoorTie
import Derived.SevenTiedAt
import Derived.Test.YtcgplgpdcfocpaaDoorRsaPadsr1
set_option linter.unusedVariables false
set_option linter.unusedSimpArgs false
section
set_option linter.unusedVariables false
set_option linter.unusedSimpArgs false
namespace Go.Proofs.YtcgplgpdcfocpaaDoor.Der
open Go Go.RowKit Go.Proofs Go.Proofs.YtcgplgpdcfocpaaDoor.Eng Go.Proofs.YtcgplgpdcfocpaaDoor.Code
set_option maxRecDepth 100000
attribute [local irreducible] callK S.W opsW scrW scrT
theorem ixs_eq {u : List UInt8} {i : Nat} {K : Value → Prop} (h : i < u.length) : ixsK (S u) ((i : Nat) : Int) K = K (.int .u8 (at' (ints u) (i : Int))) := by
  rw [ints_at h]
  have e : ((i : Nat) : Int).toNat = i := Int.toNat_natCast i
  unfold ixsK
  apply propext
  constructor
  · rintro ⟨h1, _, h2⟩
    have := S_get h1
    rw [this] at h2
    simpa [e] using h2
  · intro h2
    have h1 : ((i : Nat) : Int).toNat < (S u).size := by rw [S_size, e]; exact h
    refine ⟨h1, by omega, ?_⟩
    rw [S_get h1]
    simpa [e] using h2
def foldv (l : List Int) : Int := l.foldl (fun v c => satA (10 * v + (c - 48))) 0
theorem foldv_snoc (l : List Int) (c : Int) : foldv (l ++ [c]) = satA (10 * foldv l + (c - 48)) := by simp [foldv]
theorem foldv_bd : ∀ (l : List Int) (v : Int), (∀ x ∈ l, 48 ≤ x ∧ x ≤ 57) → 0 ≤ v → v ≤ 1099511627776 → 0 ≤ l.foldl (fun v c => satA (10 * v + (c - 48))) v ∧ l.foldl (fun v c => satA (10 * v + (c - 48))) v ≤ 1099511627776
  | [], v, _, h1, h2 => ⟨h1, h2⟩
  | x :: r, v, h, h1, h2 => by
    have hx := h x (by simp)
    have sb := satA_bd (v := 10 * v + (x - 48)) (by omega)
    exact foldv_bd r _ (fun y hy => h y (by simp [hy])) sb.1 sb.2
def seg (d : List Int) (f i : Nat) : List Int := (d.drop f).take (i - f)
theorem seg_snoc {d : List Int} {f i : Nat} (h : f ≤ i) (hi : i < d.length) : seg d f (i + 1) = seg d f i ++ [at' d (i : Int)] := by
  unfold seg
  rw [show i + 1 - f = (i - f) + 1 by omega, take_snoc (by simp; omega), at_drop, show f + (i - f) = i by omega]
theorem seg_self (d : List Int) (f : Nat) : seg d f f = [] := by simp [seg]
theorem seg_sub {d : List Int} {f k i : Nat} (h : k ≤ i) {x : Int} (hx : x ∈ seg d f k) : x ∈ seg d f i := by
  unfold seg at hx ⊢
  have e : (d.drop f).take (k - f) = ((d.drop f).take (i - f)).take (k - f) := by rw [List.take_take]; congr 1; omega
  rw [e] at hx
  exact List.mem_of_mem_take hx
theorem seg_mem {d : List Int} {f k i : Nat} (h : f ≤ k) (hk : k < i) (hi : i ≤ d.length) : at' d (k : Int) ∈ seg d f i := by
  refine seg_sub (show k + 1 ≤ i by omega) ?_
  rw [seg_snoc h (by omega)]; simp
structure At (d l : List Int) (f i : Nat) (T : Option (List Int)) : Prop where
  dig : ∀ x ∈ seg d f i, 48 ≤ x ∧ x ≤ 57
  bad : f + 1 < i → at' d (f : Int) = 48 → T = none
  good : ¬ (f + 1 < i ∧ at' d (f : Int) = 48) → arcsGo ((d ++ [46]).drop i) l (foldv (seg d f i)) (min (i - f) 20) = T
theorem drop46 {d : List Int} {i : Nat} (h : i ≤ d.length) : (d ++ [46]).drop i = at' (d ++ [46]) (i : Int) :: (d ++ [46]).drop (i + 1) := drop_at (by simp; omega)
theorem at46 {d : List Int} {i : Nat} (h : i < d.length) : at' (d ++ [46]) (i : Int) = at' d (i : Int) := by
  rw [atN, atN, List.getD_eq_getElem?_getD, List.getD_eq_getElem?_getD, List.getElem?_append_left h]
theorem at46_end {d : List Int} : at' (d ++ [46]) (d.length : Int) = 46 := by
  rw [atN, List.getD_eq_getElem?_getD, List.getElem?_append_right (Nat.le_refl _)]; simp
theorem At.first {d l : List Int} {f : Nat} {T : Option (List Int)} (h : arcsGo ((d ++ [46]).drop f) l 0 0 = T) : At d l f f T :=
  ⟨by rw [seg_self]; simp, fun h1 => by omega, fun _ => by rw [seg_self, Nat.sub_self]; exact h⟩
theorem At.wrong {d l : List Int} {f i : Nat} {T : Option (List Int)} (h : At d l f i T) (hi : i < d.length) (h46 : at' d (i : Int) ≠ 46) (hb : at' d (i : Int) < 48 ∨ 57 < at' d (i : Int)) : T = none := by
  by_cases hc : f + 1 < i ∧ at' d (f : Int) = 48
  · exact h.bad hc.1 hc.2
  · have := h.good hc
    rw [drop46 (by omega), at46 hi, arcsGo, if_neg (fun x => h46 x.1), if_pos (by omega)] at this
    exact this.symm
theorem seg_one {d : List Int} {f : Nat} (h : f < d.length) : seg d f (f + 1) = [at' d (f : Int)] := by
  rw [seg_snoc (Nat.le_refl f) h, seg_self]; rfl
theorem At.zero {d l : List Int} {f : Nat} {T : Option (List Int)} (h : At d l f (f + 1) T) (hf : f < d.length) : (foldv (seg d f (f + 1)) = 0) ↔ at' d (f : Int) = 48 := by
  have hd := h.dig (at' d (f : Int)) (by rw [seg_one hf]; simp)
  rw [seg_one hf]
  simp only [foldv, List.foldl_cons, List.foldl_nil, satA]
  split <;> constructor <;> intro <;> omega
theorem At.digit {d l : List Int} {f i : Nat} {T : Option (List Int)} (h : At d l f i T) (hfi : f ≤ i) (hi : i < d.length) (h0 : 48 ≤ at' d (i : Int)) (h9 : at' d (i : Int) ≤ 57) : At d l f (i + 1) T := by
  have key : ¬ (f + 1 < i ∧ at' d (f : Int) = 48) → (if i = f + 1 ∧ at' d (f : Int) = 48 then none else arcsGo ((d ++ [46]).drop (i + 1)) l (foldv (seg d f (i + 1))) (min (i + 1 - f) 20)) = T := by
    intro hc
    have := h.good hc
    rw [drop46 (by omega), at46 hi, arcsGo, if_neg (by omega)] at this
    by_cases h1 : i = f + 1
    · subst h1
      by_cases hz : at' d (f : Int) = 48
      · rw [if_pos (.inr (.inr ⟨by omega, (h.zero (by omega)).2 hz⟩))] at this
        rw [if_pos ⟨rfl, hz⟩]; exact this
      · rw [if_neg (fun hx => by
          rcases hx with hx | hx | hx
          · omega
          · omega
          · exact hz ((h.zero (by omega)).1 hx.2))] at this
        rw [if_neg (fun hx => hz hx.2), seg_snoc hfi hi, foldv_snoc, ← this]
        congr 1; omega
    · rw [if_neg (by omega)] at this
      rw [if_neg (fun hx => h1 hx.1), seg_snoc hfi hi, foldv_snoc, ← this]
      congr 1; omega
  refine ⟨?_, fun h1 h2 => ?_, fun hc => ?_⟩
  · rw [seg_snoc hfi hi]
    intro x hx
    rw [List.mem_append] at hx
    rcases hx with hx | hx
    · exact h.dig x hx
    · simp at hx; omega
  · by_cases h3 : f + 1 < i
    · exact h.bad h3 h2
    · have := key (fun hx => h3 hx.1)
      rw [if_pos ⟨by omega, h2⟩] at this
      exact this.symm
  · have := key (fun hx => hc ⟨by omega, hx.2⟩)
    rwa [if_neg (fun hx => hc ⟨by omega, hx.2⟩)] at this
theorem At.none_ {d l : List Int} {f i : Nat} {T : Option (List Int)} (h : At d l f i T) (hi : i ≤ d.length) (h46 : at' (d ++ [46]) (i : Int) = 46) (hb : i = f ∨ (at' d (f : Int) = 48 ∧ f + 1 < i)) : T = none := by
  rcases hb with rfl | hb
  · have := h.good (fun hx => by omega)
    rw [drop46 hi, h46, arcsGo, if_neg (by omega), if_pos (by omega)] at this
    exact this.symm
  · exact h.bad hb.2 hb.1
theorem At.next {d l : List Int} {f i : Nat} {T : Option (List Int)} (h : At d l f i T) (hi : i ≤ d.length) (h46 : at' (d ++ [46]) (i : Int) = 46) (hf : f < i) (hb : ¬ (at' d (f : Int) = 48 ∧ f + 1 < i)) : arcsGo ((d ++ [46]).drop (i + 1)) (l ++ [foldv (seg d f i)]) 0 0 = T := by
  have := h.good (fun hx => hb ⟨hx.2, hx.1⟩)
  rw [drop46 hi, h46, arcsGo, if_pos ⟨rfl, by omega⟩] at this
  exact this
set_option maxHeartbeats 4000000 in
theorem rarcs_vw {w : World} {u : List UInt8} (hm : u.length ≤ 1073741824) (K : Value → World → Prop)
    (hK : ∀ v' w', Fr w w' nob → (∀ l, arcsR (ints u) = some l → Gw .i64 w w' v' l) → K (prb v' (arcsR (ints u)).isSome) w') : callK Tryd.prog 91 [.string (S u)] w K := by
  refine call_of Tryd.func91 Code.h91 (by simp [Code.c91]) ?_
  have hT : ∃ T, arcsGo (ints u ++ [46]) [] 0 0 = T := ⟨_, rfl⟩
  obtain ⟨T, hT⟩ := hT
  have hR : ∀ l, T = some l → arcsR (ints u) = if l.length < 2 ∨ 2 < at' l 0 ∨ (at' l 0 < 2 ∧ 40 ≤ at' l 1) then none else some l := fun l hl => by unfold arcsR; rw [hT, hl]
  have hN0 : T = none → arcsR (ints u) = none := fun h => by unfold arcsR; rw [hT, h]
  have fail : T = none → ∀ w', Fr w w' nob → K (prb (.slice none 0 0) false) w' := fun h w' f => by
    have := hK (.slice none 0 0) w' f (fun l hl => by rw [hN0 h] at hl; simp at hl)
    rwa [hN0 h] at this
  have hlen := ints_len u
  simp (disch := omega) only [wu64, wu32, wu8, fdiv_nn, EO, ↓EP, EQ, EM, ↓reduceIte, Int.reduceAdd, Int.reduceEq, Int.reduceLE, Int.reduceLT, Int.reduceMul, Int.reduceNeg, Int.reducePow, Int.reduceSub, Int.reduceToNat, Nat.reduceAdd, Nat.reduceEqDiff, Nat.reduceLT, Nat.reduceLeDiff, Nat.reduceMul, reduceCtorEq, Code.c91, S_size]
  refine loop_inv (fun t ρ w' => ∃ (i f : Nat) (X : Value) (l : List Int), ρ 6 = .int .i64 i ∧ ρ 5 = .int .i64 f ∧ ρ 4 = X ∧ f ≤ i ∧ i ≤ u.length + 1 ∧ t = u.length + 1 - i ∧ l.length ≤ i ∧ Gw .i64 w w' X l ∧ (i = u.length + 1 → T = some l) ∧ (i ≤ u.length → At (ints u) l f i T)) (u.length + 1) ⟨0, 0, _, [], by simp (disch := omega) only [wu64, wu32, wu8, fdiv_nn, EO, ↓EP, EQ, EM, ↓reduceIte, Int.reduceAdd, Int.reduceEq, Int.reduceLE, Int.reduceLT, Int.reduceMul, Int.reduceNeg, Int.reducePow, Int.reduceSub, Int.reduceToNat, Nat.reduceAdd, Nat.reduceEqDiff, Nat.reduceLT, Nat.reduceLeDiff, Nat.reduceMul, reduceCtorEq], by simp (disch := omega) only [wu64, wu32, wu8, fdiv_nn, EO, ↓EP, EQ, EM, ↓reduceIte, Int.reduceAdd, Int.reduceEq, Int.reduceLE, Int.reduceLT, Int.reduceMul, Int.reduceNeg, Int.reducePow, Int.reduceSub, Int.reduceToNat, Nat.reduceAdd, Nat.reduceEqDiff, Nat.reduceLT, Nat.reduceLeDiff, Nat.reduceMul, reduceCtorEq], by simp (disch := omega) only [wu64, wu32, wu8, fdiv_nn, EO, ↓EP, EQ, EM, ↓reduceIte, Int.reduceAdd, Int.reduceEq, Int.reduceLE, Int.reduceLT, Int.reduceMul, Int.reduceNeg, Int.reducePow, Int.reduceSub, Int.reduceToNat, Nat.reduceAdd, Nat.reduceEqDiff, Nat.reduceLT, Nat.reduceLeDiff, Nat.reduceMul, reduceCtorEq], by omega, by omega, by omega, by simp, Gw.nil .i64 w, fun h => by omega, fun _ => At.first hT⟩ ?_
  rintro t ρ w1 hf ⟨i, f, X, l, h6, h5, h4, hfi, hi, rfl, hll, g, hend, hat⟩ N hN
  have r0 : ρ 0 = .string (S u) := by rw [hf 0 rfl]; simp (disch := omega) only [wu64, wu32, wu8, fdiv_nn, EO, ↓EP, EQ, EM, ↓reduceIte, Int.reduceAdd, Int.reduceEq, Int.reduceLE, Int.reduceLT, Int.reduceMul, Int.reduceNeg, Int.reducePow, Int.reduceSub, Int.reduceToNat, Nat.reduceAdd, Nat.reduceEqDiff, Nat.reduceLT, Nat.reduceLeDiff, Nat.reduceMul, reduceCtorEq]
  clear hf
  by_cases hil : (i : Int) ≤ (u.length : Int)
  · have at_ := hat (by omega)
    clear hat hend
    by_cases hsep : at' (ints u ++ [46]) (i : Int) = 46
    rotate_left
    · -- a character that is no dot
      have hi2 : i < u.length := by
        apply Nat.lt_of_le_of_ne (by omega)
        intro e
        apply hsep
        rw [e, ← hlen]
        exact at46_end
      rw [at46 (by omega)] at hsep
      have hsf : (at' (ints u) (i : Int) = 46) = False := eq_false hsep
      have bi := ints_byte u i
      by_cases hw : at' (ints u) (i : Int) < 48 ∨ 57 < at' (ints u) (i : Int)
      · have ht := at_.wrong (by omega) hsep hw
        by_cases h48 : at' (ints u) (i : Int) < 48
        · simp (disch := omega) only [wu64, wu32, wu8, fdiv_nn, EO, ↓EP, EQ, EM, ↓reduceIte, Int.reduceAdd, Int.reduceEq, Int.reduceLE, Int.reduceLT, Int.reduceMul, Int.reduceNeg, Int.reducePow, Int.reduceSub, Int.reduceToNat, Nat.reduceAdd, Nat.reduceEqDiff, Nat.reduceLT, Nat.reduceLeDiff, Nat.reduceMul, reduceCtorEq, W_join, h6, h5, r0, S_size, ixs_eq, hsf]
          exact fail ht w1 g.fr
        · simp (disch := omega) only [wu64, wu32, wu8, fdiv_nn, EO, ↓EP, EQ, EM, ↓reduceIte, Int.reduceAdd, Int.reduceEq, Int.reduceLE, Int.reduceLT, Int.reduceMul, Int.reduceNeg, Int.reducePow, Int.reduceSub, Int.reduceToNat, Nat.reduceAdd, Nat.reduceEqDiff, Nat.reduceLT, Nat.reduceLeDiff, Nat.reduceMul, reduceCtorEq, W_join, h6, h5, r0, S_size, ixs_eq, hsf]
          exact fail ht w1 g.fr
      · have at2 := at_.digit hfi (by omega) (by omega) (by omega)
        simp (disch := omega) only [wu64, wu32, wu8, fdiv_nn, EO, ↓EP, EQ, EM, ↓reduceIte, Int.reduceAdd, Int.reduceEq, Int.reduceLE, Int.reduceLT, Int.reduceMul, Int.reduceNeg, Int.reducePow, Int.reduceSub, Int.reduceToNat, Nat.reduceAdd, Nat.reduceEqDiff, Nat.reduceLT, Nat.reduceLeDiff, Nat.reduceMul, reduceCtorEq, W_join, h6, h5, r0, S_size, ixs_eq, hsf]
        exact hN (u.length + 1 - (i + 1)) _ _ (by omega) ⟨i + 1, f, X, l, by simp (disch := omega) only [wu64, wu32, wu8, fdiv_nn, EO, ↓EP, EQ, EM, ↓reduceIte, Int.reduceAdd, Int.reduceEq, Int.reduceLE, Int.reduceLT, Int.reduceMul, Int.reduceNeg, Int.reducePow, Int.reduceSub, Int.reduceToNat, Nat.reduceAdd, Nat.reduceEqDiff, Nat.reduceLT, Nat.reduceLeDiff, Nat.reduceMul, reduceCtorEq, h6, Int.natCast_add], by simp (disch := omega) only [wu64, wu32, wu8, fdiv_nn, EO, ↓EP, EQ, EM, ↓reduceIte, Int.reduceAdd, Int.reduceEq, Int.reduceLE, Int.reduceLT, Int.reduceMul, Int.reduceNeg, Int.reducePow, Int.reduceSub, Int.reduceToNat, Nat.reduceAdd, Nat.reduceEqDiff, Nat.reduceLT, Nat.reduceLeDiff, Nat.reduceMul, reduceCtorEq, h5], by simp (disch := omega) only [wu64, wu32, wu8, fdiv_nn, EO, ↓EP, EQ, EM, ↓reduceIte, Int.reduceAdd, Int.reduceEq, Int.reduceLE, Int.reduceLT, Int.reduceMul, Int.reduceNeg, Int.reducePow, Int.reduceSub, Int.reduceToNat, Nat.reduceAdd, Nat.reduceEqDiff, Nat.reduceLT, Nat.reduceLeDiff, Nat.reduceMul, reduceCtorEq, h4], by omega, by omega, rfl, by omega, g, fun h => by omega, fun _ => at2⟩
    · by_cases hi2 : (i : Int) < (u.length : Int)
      have h46 := hsep
      rw [at46 (by omega)] at h46
      by_cases hif : i = f
      · have ht := at_.none_ (by omega) hsep (.inl hif)
        subst hif
        simp (disch := omega) only [wu64, wu32, wu8, fdiv_nn, EO, ↓EP, EQ, EM, ↓reduceIte, Int.reduceAdd, Int.reduceEq, Int.reduceLE, Int.reduceLT, Int.reduceMul, Int.reduceNeg, Int.reducePow, Int.reduceSub, Int.reduceToNat, Nat.reduceAdd, Nat.reduceEqDiff, Nat.reduceLT, Nat.reduceLeDiff, Nat.reduceMul, reduceCtorEq, W_join, h6, h5, r0, S_size, ixs_eq, h46]
        exact fail ht w1 g.fr
      have bf := ints_byte u f
      have hff : ((i : Int) = (f : Int)) = False := eq_false (by omega)
      by_cases hz : at' (ints u) (f : Int) = 48 ∧ f + 1 < i
      · have ht := at_.none_ (by omega) hsep (.inr hz)
        simp (disch := omega) only [wu64, wu32, wu8, fdiv_nn, EO, ↓EP, EQ, EM, ↓reduceIte, Int.reduceAdd, Int.reduceEq, Int.reduceLE, Int.reduceLT, Int.reduceMul, Int.reduceNeg, Int.reducePow, Int.reduceSub, Int.reduceToNat, Nat.reduceAdd, Nat.reduceEqDiff, Nat.reduceLT, Nat.reduceLeDiff, Nat.reduceMul, reduceCtorEq, W_join, h6, h5, r0, S_size, ixs_eq, h46, hff, hz.1]
        exact fail ht w1 g.fr
      have hnext := at_.next (by omega) hsep (by omega) hz
      have hdig := at_.dig
      have hz2 : at' (ints u) (f : Int) = 48 → ¬ ((f : Int) + 1 < (i : Int)) := fun h1 h2 => hz ⟨h1, by omega⟩
      have tail : ∀ (ρ' : Env) (N' : Env → World → Prop), True := fun _ _ => trivial
      clear tail
      by_cases h48 : at' (ints u) (f : Int) = 48
      · have hz3 := hz2 h48
        simp (disch := omega) only [wu64, wu32, wu8, fdiv_nn, EO, ↓EP, EQ, EM, ↓reduceIte, Int.reduceAdd, Int.reduceEq, Int.reduceLE, Int.reduceLT, Int.reduceMul, Int.reduceNeg, Int.reducePow, Int.reduceSub, Int.reduceToNat, Nat.reduceAdd, Nat.reduceEqDiff, Nat.reduceLT, Nat.reduceLeDiff, Nat.reduceMul, reduceCtorEq, W_join, h6, h5, r0, S_size, ixs_eq, h46, hff, h48]
        refine loop_inv (fun t ρ2 w2 => w2 = w1 ∧ ∃ k : Nat, ρ2 8 = .int .i64 k ∧ ρ2 7 = .int .i64 (foldv (seg (ints u) f k)) ∧ f ≤ k ∧ k ≤ i ∧ t = i - k) (i - f) ⟨rfl, f, by simp (disch := omega) only [wu64, wu32, wu8, fdiv_nn, EO, ↓EP, EQ, EM, ↓reduceIte, Int.reduceAdd, Int.reduceEq, Int.reduceLE, Int.reduceLT, Int.reduceMul, Int.reduceNeg, Int.reducePow, Int.reduceSub, Int.reduceToNat, Nat.reduceAdd, Nat.reduceEqDiff, Nat.reduceLT, Nat.reduceLeDiff, Nat.reduceMul, reduceCtorEq, h5], by simp (disch := omega) only [wu64, wu32, wu8, fdiv_nn, EO, ↓EP, EQ, EM, ↓reduceIte, Int.reduceAdd, Int.reduceEq, Int.reduceLE, Int.reduceLT, Int.reduceMul, Int.reduceNeg, Int.reducePow, Int.reduceSub, Int.reduceToNat, Nat.reduceAdd, Nat.reduceEqDiff, Nat.reduceLT, Nat.reduceLeDiff, Nat.reduceMul, reduceCtorEq, seg_self]; rfl, by omega, by omega, rfl⟩ ?_
        rintro t ρ2 w2 hf2 ⟨rfl, k, k8, k7, hfk, hki, rfl⟩ N2 hN2
        have q0 : ρ2 0 = .string (S u) := by rw [hf2 0 rfl]; simp (disch := omega) only [wu64, wu32, wu8, fdiv_nn, EO, ↓EP, EQ, EM, ↓reduceIte, Int.reduceAdd, Int.reduceEq, Int.reduceLE, Int.reduceLT, Int.reduceMul, Int.reduceNeg, Int.reducePow, Int.reduceSub, Int.reduceToNat, Nat.reduceAdd, Nat.reduceEqDiff, Nat.reduceLT, Nat.reduceLeDiff, Nat.reduceMul, reduceCtorEq, r0]
        have q4 : ρ2 4 = X := by rw [hf2 4 rfl]; simp (disch := omega) only [wu64, wu32, wu8, fdiv_nn, EO, ↓EP, EQ, EM, ↓reduceIte, Int.reduceAdd, Int.reduceEq, Int.reduceLE, Int.reduceLT, Int.reduceMul, Int.reduceNeg, Int.reducePow, Int.reduceSub, Int.reduceToNat, Nat.reduceAdd, Nat.reduceEqDiff, Nat.reduceLT, Nat.reduceLeDiff, Nat.reduceMul, reduceCtorEq, h4]
        have q6 : ρ2 6 = .int .i64 i := by rw [hf2 6 rfl]; simp (disch := omega) only [wu64, wu32, wu8, fdiv_nn, EO, ↓EP, EQ, EM, ↓reduceIte, Int.reduceAdd, Int.reduceEq, Int.reduceLE, Int.reduceLT, Int.reduceMul, Int.reduceNeg, Int.reducePow, Int.reduceSub, Int.reduceToNat, Nat.reduceAdd, Nat.reduceEqDiff, Nat.reduceLT, Nat.reduceLeDiff, Nat.reduceMul, reduceCtorEq, h6]
        clear hf2
        have vb := foldv_bd (seg (ints u) f k) 0 (fun x hx => hdig x (seg_sub hki hx)) (by omega) (by omega)
        rw [show (seg (ints u) f k).foldl (fun v c => satA (10 * v + (c - 48))) 0 = foldv (seg (ints u) f k) from rfl] at vb
        by_cases hk : (k : Int) < (i : Int)
        · have ck := hdig _ (seg_mem hfk (show k < i by omega) (by omega))
          have hst : foldv (seg (ints u) f (k + 1)) = satA (10 * foldv (seg (ints u) f k) + (at' (ints u) (k : Int) - 48)) := by rw [seg_snoc hfk (by omega), foldv_snoc]
          generalize foldv (seg (ints u) f k) = V at *
          by_cases hcap : 1099511627776 < V * 10 + (at' (ints u) (k : Int) - 48)
          · rw [show satA (10 * V + (at' (ints u) (k : Int) - 48)) = 1099511627776 by unfold satA; split <;> omega] at hst
            simp (disch := omega) only [wu64, wu32, wu8, fdiv_nn, EO, ↓EP, EQ, EM, ↓reduceIte, Int.reduceAdd, Int.reduceEq, Int.reduceLE, Int.reduceLT, Int.reduceMul, Int.reduceNeg, Int.reducePow, Int.reduceSub, Int.reduceToNat, Nat.reduceAdd, Nat.reduceEqDiff, Nat.reduceLT, Nat.reduceLeDiff, Nat.reduceMul, reduceCtorEq, W_join, k8, k7, q0, q6, S_size, ixs_eq]
            exact hN2 (i - (k + 1)) _ _ (by omega) ⟨rfl, k + 1, by simp (disch := omega) only [wu64, wu32, wu8, fdiv_nn, EO, ↓EP, EQ, EM, ↓reduceIte, Int.reduceAdd, Int.reduceEq, Int.reduceLE, Int.reduceLT, Int.reduceMul, Int.reduceNeg, Int.reducePow, Int.reduceSub, Int.reduceToNat, Nat.reduceAdd, Nat.reduceEqDiff, Nat.reduceLT, Nat.reduceLeDiff, Nat.reduceMul, reduceCtorEq, k8, Int.natCast_add], by simp (disch := omega) only [wu64, wu32, wu8, fdiv_nn, EO, ↓EP, EQ, EM, ↓reduceIte, Int.reduceAdd, Int.reduceEq, Int.reduceLE, Int.reduceLT, Int.reduceMul, Int.reduceNeg, Int.reducePow, Int.reduceSub, Int.reduceToNat, Nat.reduceAdd, Nat.reduceEqDiff, Nat.reduceLT, Nat.reduceLeDiff, Nat.reduceMul, reduceCtorEq, hst], by omega, by omega, rfl⟩
          · rw [show satA (10 * V + (at' (ints u) (k : Int) - 48)) = V * 10 + (at' (ints u) (k : Int) - 48) by unfold satA; split <;> omega] at hst
            simp (disch := omega) only [wu64, wu32, wu8, fdiv_nn, EO, ↓EP, EQ, EM, ↓reduceIte, Int.reduceAdd, Int.reduceEq, Int.reduceLE, Int.reduceLT, Int.reduceMul, Int.reduceNeg, Int.reducePow, Int.reduceSub, Int.reduceToNat, Nat.reduceAdd, Nat.reduceEqDiff, Nat.reduceLT, Nat.reduceLeDiff, Nat.reduceMul, reduceCtorEq, W_join, k8, k7, q0, q6, S_size, ixs_eq]
            exact hN2 (i - (k + 1)) _ _ (by omega) ⟨rfl, k + 1, by simp (disch := omega) only [wu64, wu32, wu8, fdiv_nn, EO, ↓EP, EQ, EM, ↓reduceIte, Int.reduceAdd, Int.reduceEq, Int.reduceLE, Int.reduceLT, Int.reduceMul, Int.reduceNeg, Int.reducePow, Int.reduceSub, Int.reduceToNat, Nat.reduceAdd, Nat.reduceEqDiff, Nat.reduceLT, Nat.reduceLeDiff, Nat.reduceMul, reduceCtorEq, k8, Int.natCast_add], by simp (disch := omega) only [wu64, wu32, wu8, fdiv_nn, EO, ↓EP, EQ, EM, ↓reduceIte, Int.reduceAdd, Int.reduceEq, Int.reduceLE, Int.reduceLT, Int.reduceMul, Int.reduceNeg, Int.reducePow, Int.reduceSub, Int.reduceToNat, Nat.reduceAdd, Nat.reduceEqDiff, Nat.reduceLT, Nat.reduceLeDiff, Nat.reduceMul, reduceCtorEq, hst], by omega, by omega, rfl⟩
        · have hke : k = i := by omega
          subst hke
          clear hN2
          simp (disch := omega) only [wu64, wu32, wu8, fdiv_nn, EO, ↓EP, EQ, EM, ↓reduceIte, Int.reduceAdd, Int.reduceEq, Int.reduceLE, Int.reduceLT, Int.reduceMul, Int.reduceNeg, Int.reducePow, Int.reduceSub, Int.reduceToNat, Nat.reduceAdd, Nat.reduceEqDiff, Nat.reduceLT, Nat.reduceLeDiff, Nat.reduceMul, reduceCtorEq, W_join, k8, k7, q0, q4, q6]
          refine bsl1 fun w3 n3 => ?_
          have g3 := g.new n3
          simp (disch := omega) only [wu64, wu32, wu8, fdiv_nn, EO, ↓EP, EQ, EM, ↓reduceIte, Int.reduceAdd, Int.reduceEq, Int.reduceLE, Int.reduceLT, Int.reduceMul, Int.reduceNeg, Int.reducePow, Int.reduceSub, Int.reduceToNat, Nat.reduceAdd, Nat.reduceEqDiff, Nat.reduceLT, Nat.reduceLeDiff, Nat.reduceMul, reduceCtorEq, W_join, k8, k7, q0, q4, q6]
          refine app_num g3.sl rfl n3.rdv (by simp; omega) (by omega) fun v4 w4 a4 => ?_
          have g4 := g3.apd a4
          simp (disch := omega) only [wu64, wu32, wu8, fdiv_nn, EO, ↓EP, EQ, EM, ↓reduceIte, Int.reduceAdd, Int.reduceEq, Int.reduceLE, Int.reduceLT, Int.reduceMul, Int.reduceNeg, Int.reducePow, Int.reduceSub, Int.reduceToNat, Nat.reduceAdd, Nat.reduceEqDiff, Nat.reduceLT, Nat.reduceLeDiff, Nat.reduceMul, reduceCtorEq, W_join, k8, k7, q0, q4, q6]
          refine hN (u.length + 1 - (k + 1)) _ _ (by omega) ⟨k + 1, k + 1, v4, l ++ [foldv (seg (ints u) f k)], by simp (disch := omega) only [wu64, wu32, wu8, fdiv_nn, EO, ↓EP, EQ, EM, ↓reduceIte, Int.reduceAdd, Int.reduceEq, Int.reduceLE, Int.reduceLT, Int.reduceMul, Int.reduceNeg, Int.reducePow, Int.reduceSub, Int.reduceToNat, Nat.reduceAdd, Nat.reduceEqDiff, Nat.reduceLT, Nat.reduceLeDiff, Nat.reduceMul, reduceCtorEq, q6, Int.natCast_add], by simp (disch := omega) only [wu64, wu32, wu8, fdiv_nn, EO, ↓EP, EQ, EM, ↓reduceIte, Int.reduceAdd, Int.reduceEq, Int.reduceLE, Int.reduceLT, Int.reduceMul, Int.reduceNeg, Int.reducePow, Int.reduceSub, Int.reduceToNat, Nat.reduceAdd, Nat.reduceEqDiff, Nat.reduceLT, Nat.reduceLeDiff, Nat.reduceMul, reduceCtorEq, q6, Int.natCast_add], by simp (disch := omega) only [wu64, wu32, wu8, fdiv_nn, EO, ↓EP, EQ, EM, ↓reduceIte, Int.reduceAdd, Int.reduceEq, Int.reduceLE, Int.reduceLT, Int.reduceMul, Int.reduceNeg, Int.reducePow, Int.reduceSub, Int.reduceToNat, Nat.reduceAdd, Nat.reduceEqDiff, Nat.reduceLT, Nat.reduceLeDiff, Nat.reduceMul, reduceCtorEq], by omega, by omega, rfl, by simp; omega, g4, fun he => ?_, fun he => At.first hnext⟩
          have hd0 : (ints u ++ [46]).drop (k + 1) = [] := List.drop_eq_nil_of_le (by simp; omega)
          rw [hd0, arcsGo] at hnext
          exact hnext.symm
      · have h48f : (at' (ints u) (f : Int) = 48) = False := eq_false h48
        simp (disch := omega) only [wu64, wu32, wu8, fdiv_nn, EO, ↓EP, EQ, EM, ↓reduceIte, Int.reduceAdd, Int.reduceEq, Int.reduceLE, Int.reduceLT, Int.reduceMul, Int.reduceNeg, Int.reducePow, Int.reduceSub, Int.reduceToNat, Nat.reduceAdd, Nat.reduceEqDiff, Nat.reduceLT, Nat.reduceLeDiff, Nat.reduceMul, reduceCtorEq, W_join, h6, h5, r0, S_size, ixs_eq, h46, hff, h48f]
        refine loop_inv (fun t ρ2 w2 => w2 = w1 ∧ ∃ k : Nat, ρ2 8 = .int .i64 k ∧ ρ2 7 = .int .i64 (foldv (seg (ints u) f k)) ∧ f ≤ k ∧ k ≤ i ∧ t = i - k) (i - f) ⟨rfl, f, by simp (disch := omega) only [wu64, wu32, wu8, fdiv_nn, EO, ↓EP, EQ, EM, ↓reduceIte, Int.reduceAdd, Int.reduceEq, Int.reduceLE, Int.reduceLT, Int.reduceMul, Int.reduceNeg, Int.reducePow, Int.reduceSub, Int.reduceToNat, Nat.reduceAdd, Nat.reduceEqDiff, Nat.reduceLT, Nat.reduceLeDiff, Nat.reduceMul, reduceCtorEq, h5], by simp (disch := omega) only [wu64, wu32, wu8, fdiv_nn, EO, ↓EP, EQ, EM, ↓reduceIte, Int.reduceAdd, Int.reduceEq, Int.reduceLE, Int.reduceLT, Int.reduceMul, Int.reduceNeg, Int.reducePow, Int.reduceSub, Int.reduceToNat, Nat.reduceAdd, Nat.reduceEqDiff, Nat.reduceLT, Nat.reduceLeDiff, Nat.reduceMul, reduceCtorEq, seg_self]; rfl, by omega, by omega, rfl⟩ ?_
        rintro t ρ2 w2 hf2 ⟨rfl, k, k8, k7, hfk, hki, rfl⟩ N2 hN2
        have q0 : ρ2 0 = .string (S u) := by rw [hf2 0 rfl]; simp (disch := omega) only [wu64, wu32, wu8, fdiv_nn, EO, ↓EP, EQ, EM, ↓reduceIte, Int.reduceAdd, Int.reduceEq, Int.reduceLE, Int.reduceLT, Int.reduceMul, Int.reduceNeg, Int.reducePow, Int.reduceSub, Int.reduceToNat, Nat.reduceAdd, Nat.reduceEqDiff, Nat.reduceLT, Nat.reduceLeDiff, Nat.reduceMul, reduceCtorEq, r0]
        have q4 : ρ2 4 = X := by rw [hf2 4 rfl]; simp (disch := omega) only [wu64, wu32, wu8, fdiv_nn, EO, ↓EP, EQ, EM, ↓reduceIte, Int.reduceAdd, Int.reduceEq, Int.reduceLE, Int.reduceLT, Int.reduceMul, Int.reduceNeg, Int.reducePow, Int.reduceSub, Int.reduceToNat, Nat.reduceAdd, Nat.reduceEqDiff, Nat.reduceLT, Nat.reduceLeDiff, Nat.reduceMul, reduceCtorEq, h4]
        have q6 : ρ2 6 = .int .i64 i := by rw [hf2 6 rfl]; simp (disch := omega) only [wu64, wu32, wu8, fdiv_nn, EO, ↓EP, EQ, EM, ↓reduceIte, Int.reduceAdd, Int.reduceEq, Int.reduceLE, Int.reduceLT, Int.reduceMul, Int.reduceNeg, Int.reducePow, Int.reduceSub, Int.reduceToNat, Nat.reduceAdd, Nat.reduceEqDiff, Nat.reduceLT, Nat.reduceLeDiff, Nat.reduceMul, reduceCtorEq, h6]
        clear hf2
        have vb := foldv_bd (seg (ints u) f k) 0 (fun x hx => hdig x (seg_sub hki hx)) (by omega) (by omega)
        rw [show (seg (ints u) f k).foldl (fun v c => satA (10 * v + (c - 48))) 0 = foldv (seg (ints u) f k) from rfl] at vb
        by_cases hk : (k : Int) < (i : Int)
        · have ck := hdig _ (seg_mem hfk (show k < i by omega) (by omega))
          have hst : foldv (seg (ints u) f (k + 1)) = satA (10 * foldv (seg (ints u) f k) + (at' (ints u) (k : Int) - 48)) := by rw [seg_snoc hfk (by omega), foldv_snoc]
          generalize foldv (seg (ints u) f k) = V at *
          by_cases hcap : 1099511627776 < V * 10 + (at' (ints u) (k : Int) - 48)
          · rw [show satA (10 * V + (at' (ints u) (k : Int) - 48)) = 1099511627776 by unfold satA; split <;> omega] at hst
            simp (disch := omega) only [wu64, wu32, wu8, fdiv_nn, EO, ↓EP, EQ, EM, ↓reduceIte, Int.reduceAdd, Int.reduceEq, Int.reduceLE, Int.reduceLT, Int.reduceMul, Int.reduceNeg, Int.reducePow, Int.reduceSub, Int.reduceToNat, Nat.reduceAdd, Nat.reduceEqDiff, Nat.reduceLT, Nat.reduceLeDiff, Nat.reduceMul, reduceCtorEq, W_join, k8, k7, q0, q6, S_size, ixs_eq]
            exact hN2 (i - (k + 1)) _ _ (by omega) ⟨rfl, k + 1, by simp (disch := omega) only [wu64, wu32, wu8, fdiv_nn, EO, ↓EP, EQ, EM, ↓reduceIte, Int.reduceAdd, Int.reduceEq, Int.reduceLE, Int.reduceLT, Int.reduceMul, Int.reduceNeg, Int.reducePow, Int.reduceSub, Int.reduceToNat, Nat.reduceAdd, Nat.reduceEqDiff, Nat.reduceLT, Nat.reduceLeDiff, Nat.reduceMul, reduceCtorEq, k8, Int.natCast_add], by simp (disch := omega) only [wu64, wu32, wu8, fdiv_nn, EO, ↓EP, EQ, EM, ↓reduceIte, Int.reduceAdd, Int.reduceEq, Int.reduceLE, Int.reduceLT, Int.reduceMul, Int.reduceNeg, Int.reducePow, Int.reduceSub, Int.reduceToNat, Nat.reduceAdd, Nat.reduceEqDiff, Nat.reduceLT, Nat.reduceLeDiff, Nat.reduceMul, reduceCtorEq, hst], by omega, by omega, rfl⟩
          · rw [show satA (10 * V + (at' (ints u) (k : Int) - 48)) = V * 10 + (at' (ints u) (k : Int) - 48) by unfold satA; split <;> omega] at hst
            simp (disch := omega) only [wu64, wu32, wu8, fdiv_nn, EO, ↓EP, EQ, EM, ↓reduceIte, Int.reduceAdd, Int.reduceEq, Int.reduceLE, Int.reduceLT, Int.reduceMul, Int.reduceNeg, Int.reducePow, Int.reduceSub, Int.reduceToNat, Nat.reduceAdd, Nat.reduceEqDiff, Nat.reduceLT, Nat.reduceLeDiff, Nat.reduceMul, reduceCtorEq, W_join, k8, k7, q0, q6, S_size, ixs_eq]
            exact hN2 (i - (k + 1)) _ _ (by omega) ⟨rfl, k + 1, by simp (disch := omega) only [wu64, wu32, wu8, fdiv_nn, EO, ↓EP, EQ, EM, ↓reduceIte, Int.reduceAdd, Int.reduceEq, Int.reduceLE, Int.reduceLT, Int.reduceMul, Int.reduceNeg, Int.reducePow, Int.reduceSub, Int.reduceToNat, Nat.reduceAdd, Nat.reduceEqDiff, Nat.reduceLT, Nat.reduceLeDiff, Nat.reduceMul, reduceCtorEq, k8, Int.natCast_add], by simp (disch := omega) only [wu64, wu32, wu8, fdiv_nn, EO, ↓EP, EQ, EM, ↓reduceIte, Int.reduceAdd, Int.reduceEq, Int.reduceLE, Int.reduceLT, Int.reduceMul, Int.reduceNeg, Int.reducePow, Int.reduceSub, Int.reduceToNat, Nat.reduceAdd, Nat.reduceEqDiff, Nat.reduceLT, Nat.reduceLeDiff, Nat.reduceMul, reduceCtorEq, hst], by omega, by omega, rfl⟩
        · have hke : k = i := by omega
          subst hke
          clear hN2
          simp (disch := omega) only [wu64, wu32, wu8, fdiv_nn, EO, ↓EP, EQ, EM, ↓reduceIte, Int.reduceAdd, Int.reduceEq, Int.reduceLE, Int.reduceLT, Int.reduceMul, Int.reduceNeg, Int.reducePow, Int.reduceSub, Int.reduceToNat, Nat.reduceAdd, Nat.reduceEqDiff, Nat.reduceLT, Nat.reduceLeDiff, Nat.reduceMul, reduceCtorEq, W_join, k8, k7, q0, q4, q6]
          refine bsl1 fun w3 n3 => ?_
          have g3 := g.new n3
          simp (disch := omega) only [wu64, wu32, wu8, fdiv_nn, EO, ↓EP, EQ, EM, ↓reduceIte, Int.reduceAdd, Int.reduceEq, Int.reduceLE, Int.reduceLT, Int.reduceMul, Int.reduceNeg, Int.reducePow, Int.reduceSub, Int.reduceToNat, Nat.reduceAdd, Nat.reduceEqDiff, Nat.reduceLT, Nat.reduceLeDiff, Nat.reduceMul, reduceCtorEq, W_join, k8, k7, q0, q4, q6]
          refine app_num g3.sl rfl n3.rdv (by simp; omega) (by omega) fun v4 w4 a4 => ?_
          have g4 := g3.apd a4
          simp (disch := omega) only [wu64, wu32, wu8, fdiv_nn, EO, ↓EP, EQ, EM, ↓reduceIte, Int.reduceAdd, Int.reduceEq, Int.reduceLE, Int.reduceLT, Int.reduceMul, Int.reduceNeg, Int.reducePow, Int.reduceSub, Int.reduceToNat, Nat.reduceAdd, Nat.reduceEqDiff, Nat.reduceLT, Nat.reduceLeDiff, Nat.reduceMul, reduceCtorEq, W_join, k8, k7, q0, q4, q6]
          refine hN (u.length + 1 - (k + 1)) _ _ (by omega) ⟨k + 1, k + 1, v4, l ++ [foldv (seg (ints u) f k)], by simp (disch := omega) only [wu64, wu32, wu8, fdiv_nn, EO, ↓EP, EQ, EM, ↓reduceIte, Int.reduceAdd, Int.reduceEq, Int.reduceLE, Int.reduceLT, Int.reduceMul, Int.reduceNeg, Int.reducePow, Int.reduceSub, Int.reduceToNat, Nat.reduceAdd, Nat.reduceEqDiff, Nat.reduceLT, Nat.reduceLeDiff, Nat.reduceMul, reduceCtorEq, q6, Int.natCast_add], by simp (disch := omega) only [wu64, wu32, wu8, fdiv_nn, EO, ↓EP, EQ, EM, ↓reduceIte, Int.reduceAdd, Int.reduceEq, Int.reduceLE, Int.reduceLT, Int.reduceMul, Int.reduceNeg, Int.reducePow, Int.reduceSub, Int.reduceToNat, Nat.reduceAdd, Nat.reduceEqDiff, Nat.reduceLT, Nat.reduceLeDiff, Nat.reduceMul, reduceCtorEq, q6, Int.natCast_add], by simp (disch := omega) only [wu64, wu32, wu8, fdiv_nn, EO, ↓EP, EQ, EM, ↓reduceIte, Int.reduceAdd, Int.reduceEq, Int.reduceLE, Int.reduceLT, Int.reduceMul, Int.reduceNeg, Int.reducePow, Int.reduceSub, Int.reduceToNat, Nat.reduceAdd, Nat.reduceEqDiff, Nat.reduceLT, Nat.reduceLeDiff, Nat.reduceMul, reduceCtorEq], by omega, by omega, rfl, by simp; omega, g4, fun he => ?_, fun he => At.first hnext⟩
          have hd0 : (ints u ++ [46]).drop (k + 1) = [] := List.drop_eq_nil_of_le (by simp; omega)
          rw [hd0, arcsGo] at hnext
          exact hnext.symm
      · have hie : i = u.length := by omega
        by_cases hif : i = f
        · have ht := at_.none_ (by omega) hsep (.inl hif)
          subst hif
          simp (disch := omega) only [wu64, wu32, wu8, fdiv_nn, EO, ↓EP, EQ, EM, ↓reduceIte, Int.reduceAdd, Int.reduceEq, Int.reduceLE, Int.reduceLT, Int.reduceMul, Int.reduceNeg, Int.reducePow, Int.reduceSub, Int.reduceToNat, Nat.reduceAdd, Nat.reduceEqDiff, Nat.reduceLT, Nat.reduceLeDiff, Nat.reduceMul, reduceCtorEq, W_join, h6, h5, r0, S_size, ixs_eq]
          exact fail ht w1 g.fr
        have bf := ints_byte u f
        have hff : ((i : Int) = (f : Int)) = False := eq_false (by omega)
        by_cases hz : at' (ints u) (f : Int) = 48 ∧ f + 1 < i
        · have ht := at_.none_ (by omega) hsep (.inr hz)
          simp (disch := omega) only [wu64, wu32, wu8, fdiv_nn, EO, ↓EP, EQ, EM, ↓reduceIte, Int.reduceAdd, Int.reduceEq, Int.reduceLE, Int.reduceLT, Int.reduceMul, Int.reduceNeg, Int.reducePow, Int.reduceSub, Int.reduceToNat, Nat.reduceAdd, Nat.reduceEqDiff, Nat.reduceLT, Nat.reduceLeDiff, Nat.reduceMul, reduceCtorEq, W_join, h6, h5, r0, S_size, ixs_eq, hff, hz.1]
          exact fail ht w1 g.fr
        have hnext := at_.next (by omega) hsep (by omega) hz
        have hdig := at_.dig
        have hz2 : at' (ints u) (f : Int) = 48 → ¬ ((f : Int) + 1 < (i : Int)) := fun h1 h2 => hz ⟨h1, by omega⟩
        have tail : ∀ (ρ' : Env) (N' : Env → World → Prop), True := fun _ _ => trivial
        clear tail
        by_cases h48 : at' (ints u) (f : Int) = 48
        · have hz3 := hz2 h48
          simp (disch := omega) only [wu64, wu32, wu8, fdiv_nn, EO, ↓EP, EQ, EM, ↓reduceIte, Int.reduceAdd, Int.reduceEq, Int.reduceLE, Int.reduceLT, Int.reduceMul, Int.reduceNeg, Int.reducePow, Int.reduceSub, Int.reduceToNat, Nat.reduceAdd, Nat.reduceEqDiff, Nat.reduceLT, Nat.reduceLeDiff, Nat.reduceMul, reduceCtorEq, W_join, h6, h5, r0, S_size, ixs_eq, hff, h48]
          refine loop_inv (fun t ρ2 w2 => w2 = w1 ∧ ∃ k : Nat, ρ2 8 = .int .i64 k ∧ ρ2 7 = .int .i64 (foldv (seg (ints u) f k)) ∧ f ≤ k ∧ k ≤ i ∧ t = i - k) (i - f) ⟨rfl, f, by simp (disch := omega) only [wu64, wu32, wu8, fdiv_nn, EO, ↓EP, EQ, EM, ↓reduceIte, Int.reduceAdd, Int.reduceEq, Int.reduceLE, Int.reduceLT, Int.reduceMul, Int.reduceNeg, Int.reducePow, Int.reduceSub, Int.reduceToNat, Nat.reduceAdd, Nat.reduceEqDiff, Nat.reduceLT, Nat.reduceLeDiff, Nat.reduceMul, reduceCtorEq, h5], by simp (disch := omega) only [wu64, wu32, wu8, fdiv_nn, EO, ↓EP, EQ, EM, ↓reduceIte, Int.reduceAdd, Int.reduceEq, Int.reduceLE, Int.reduceLT, Int.reduceMul, Int.reduceNeg, Int.reducePow, Int.reduceSub, Int.reduceToNat, Nat.reduceAdd, Nat.reduceEqDiff, Nat.reduceLT, Nat.reduceLeDiff, Nat.reduceMul, reduceCtorEq, seg_self]; rfl, by omega, by omega, rfl⟩ ?_
          rintro t ρ2 w2 hf2 ⟨rfl, k, k8, k7, hfk, hki, rfl⟩ N2 hN2
          have q0 : ρ2 0 = .string (S u) := by rw [hf2 0 rfl]; simp (disch := omega) only [wu64, wu32, wu8, fdiv_nn, EO, ↓EP, EQ, EM, ↓reduceIte, Int.reduceAdd, Int.reduceEq, Int.reduceLE, Int.reduceLT, Int.reduceMul, Int.reduceNeg, Int.reducePow, Int.reduceSub, Int.reduceToNat, Nat.reduceAdd, Nat.reduceEqDiff, Nat.reduceLT, Nat.reduceLeDiff, Nat.reduceMul, reduceCtorEq, r0]
          have q4 : ρ2 4 = X := by rw [hf2 4 rfl]; simp (disch := omega) only [wu64, wu32, wu8, fdiv_nn, EO, ↓EP, EQ, EM, ↓reduceIte, Int.reduceAdd, Int.reduceEq, Int.reduceLE, Int.reduceLT, Int.reduceMul, Int.reduceNeg, Int.reducePow, Int.reduceSub, Int.reduceToNat, Nat.reduceAdd, Nat.reduceEqDiff, Nat.reduceLT, Nat.reduceLeDiff, Nat.reduceMul, reduceCtorEq, h4]
          have q6 : ρ2 6 = .int .i64 i := by rw [hf2 6 rfl]; simp (disch := omega) only [wu64, wu32, wu8, fdiv_nn, EO, ↓EP, EQ, EM, ↓reduceIte, Int.reduceAdd, Int.reduceEq, Int.reduceLE, Int.reduceLT, Int.reduceMul, Int.reduceNeg, Int.reducePow, Int.reduceSub, Int.reduceToNat, Nat.reduceAdd, Nat.reduceEqDiff, Nat.reduceLT, Nat.reduceLeDiff, Nat.reduceMul, reduceCtorEq, h6]
          clear hf2
          have vb := foldv_bd (seg (ints u) f k) 0 (fun x hx => hdig x (seg_sub hki hx)) (by omega) (by omega)
          rw [show (seg (ints u) f k).foldl (fun v c => satA (10 * v + (c - 48))) 0 = foldv (seg (ints u) f k) from rfl] at vb
          by_cases hk : (k : Int) < (i : Int)
          · have ck := hdig _ (seg_mem hfk (show k < i by omega) (by omega))
            have hst : foldv (seg (ints u) f (k + 1)) = satA (10 * foldv (seg (ints u) f k) + (at' (ints u) (k : Int) - 48)) := by rw [seg_snoc hfk (by omega), foldv_snoc]
            generalize foldv (seg (ints u) f k) = V at *
            by_cases hcap : 1099511627776 < V * 10 + (at' (ints u) (k : Int) - 48)
            · rw [show satA (10 * V + (at' (ints u) (k : Int) - 48)) = 1099511627776 by unfold satA; split <;> omega] at hst
              simp (disch := omega) only [wu64, wu32, wu8, fdiv_nn, EO, ↓EP, EQ, EM, ↓reduceIte, Int.reduceAdd, Int.reduceEq, Int.reduceLE, Int.reduceLT, Int.reduceMul, Int.reduceNeg, Int.reducePow, Int.reduceSub, Int.reduceToNat, Nat.reduceAdd, Nat.reduceEqDiff, Nat.reduceLT, Nat.reduceLeDiff, Nat.reduceMul, reduceCtorEq, W_join, k8, k7, q0, q6, S_size, ixs_eq]
              exact hN2 (i - (k + 1)) _ _ (by omega) ⟨rfl, k + 1, by simp (disch := omega) only [wu64, wu32, wu8, fdiv_nn, EO, ↓EP, EQ, EM, ↓reduceIte, Int.reduceAdd, Int.reduceEq, Int.reduceLE, Int.reduceLT, Int.reduceMul, Int.reduceNeg, Int.reducePow, Int.reduceSub, Int.reduceToNat, Nat.reduceAdd, Nat.reduceEqDiff, Nat.reduceLT, Nat.reduceLeDiff, Nat.reduceMul, reduceCtorEq, k8, Int.natCast_add], by simp (disch := omega) only [wu64, wu32, wu8, fdiv_nn, EO, ↓EP, EQ, EM, ↓reduceIte, Int.reduceAdd, Int.reduceEq, Int.reduceLE, Int.reduceLT, Int.reduceMul, Int.reduceNeg, Int.reducePow, Int.reduceSub, Int.reduceToNat, Nat.reduceAdd, Nat.reduceEqDiff, Nat.reduceLT, Nat.reduceLeDiff, Nat.reduceMul, reduceCtorEq, hst], by omega, by omega, rfl⟩
            · rw [show satA (10 * V + (at' (ints u) (k : Int) - 48)) = V * 10 + (at' (ints u) (k : Int) - 48) by unfold satA; split <;> omega] at hst
              simp (disch := omega) only [wu64, wu32, wu8, fdiv_nn, EO, ↓EP, EQ, EM, ↓reduceIte, Int.reduceAdd, Int.reduceEq, Int.reduceLE, Int.reduceLT, Int.reduceMul, Int.reduceNeg, Int.reducePow, Int.reduceSub, Int.reduceToNat, Nat.reduceAdd, Nat.reduceEqDiff, Nat.reduceLT, Nat.reduceLeDiff, Nat.reduceMul, reduceCtorEq, W_join, k8, k7, q0, q6, S_size, ixs_eq]
              exact hN2 (i - (k + 1)) _ _ (by omega) ⟨rfl, k + 1, by simp (disch := omega) only [wu64, wu32, wu8, fdiv_nn, EO, ↓EP, EQ, EM, ↓reduceIte, Int.reduceAdd, Int.reduceEq, Int.reduceLE, Int.reduceLT, Int.reduceMul, Int.reduceNeg, Int.reducePow, Int.reduceSub, Int.reduceToNat, Nat.reduceAdd, Nat.reduceEqDiff, Nat.reduceLT, Nat.reduceLeDiff, Nat.reduceMul, reduceCtorEq, k8, Int.natCast_add], by simp (disch := omega) only [wu64, wu32, wu8, fdiv_nn, EO, ↓EP, EQ, EM, ↓reduceIte, Int.reduceAdd, Int.reduceEq, Int.reduceLE, Int.reduceLT, Int.reduceMul, Int.reduceNeg, Int.reducePow, Int.reduceSub, Int.reduceToNat, Nat.reduceAdd, Nat.reduceEqDiff, Nat.reduceLT, Nat.reduceLeDiff, Nat.reduceMul, reduceCtorEq, hst], by omega, by omega, rfl⟩
          · have hke : k = i := by omega
            subst hke
            clear hN2
            simp (disch := omega) only [wu64, wu32, wu8, fdiv_nn, EO, ↓EP, EQ, EM, ↓reduceIte, Int.reduceAdd, Int.reduceEq, Int.reduceLE, Int.reduceLT, Int.reduceMul, Int.reduceNeg, Int.reducePow, Int.reduceSub, Int.reduceToNat, Nat.reduceAdd, Nat.reduceEqDiff, Nat.reduceLT, Nat.reduceLeDiff, Nat.reduceMul, reduceCtorEq, W_join, k8, k7, q0, q4, q6]
            refine bsl1 fun w3 n3 => ?_
            have g3 := g.new n3
            simp (disch := omega) only [wu64, wu32, wu8, fdiv_nn, EO, ↓EP, EQ, EM, ↓reduceIte, Int.reduceAdd, Int.reduceEq, Int.reduceLE, Int.reduceLT, Int.reduceMul, Int.reduceNeg, Int.reducePow, Int.reduceSub, Int.reduceToNat, Nat.reduceAdd, Nat.reduceEqDiff, Nat.reduceLT, Nat.reduceLeDiff, Nat.reduceMul, reduceCtorEq, W_join, k8, k7, q0, q4, q6]
            refine app_num g3.sl rfl n3.rdv (by simp; omega) (by omega) fun v4 w4 a4 => ?_
            have g4 := g3.apd a4
            simp (disch := omega) only [wu64, wu32, wu8, fdiv_nn, EO, ↓EP, EQ, EM, ↓reduceIte, Int.reduceAdd, Int.reduceEq, Int.reduceLE, Int.reduceLT, Int.reduceMul, Int.reduceNeg, Int.reducePow, Int.reduceSub, Int.reduceToNat, Nat.reduceAdd, Nat.reduceEqDiff, Nat.reduceLT, Nat.reduceLeDiff, Nat.reduceMul, reduceCtorEq, W_join, k8, k7, q0, q4, q6]
            refine hN (u.length + 1 - (k + 1)) _ _ (by omega) ⟨k + 1, k + 1, v4, l ++ [foldv (seg (ints u) f k)], by simp (disch := omega) only [wu64, wu32, wu8, fdiv_nn, EO, ↓EP, EQ, EM, ↓reduceIte, Int.reduceAdd, Int.reduceEq, Int.reduceLE, Int.reduceLT, Int.reduceMul, Int.reduceNeg, Int.reducePow, Int.reduceSub, Int.reduceToNat, Nat.reduceAdd, Nat.reduceEqDiff, Nat.reduceLT, Nat.reduceLeDiff, Nat.reduceMul, reduceCtorEq, q6, Int.natCast_add], by simp (disch := omega) only [wu64, wu32, wu8, fdiv_nn, EO, ↓EP, EQ, EM, ↓reduceIte, Int.reduceAdd, Int.reduceEq, Int.reduceLE, Int.reduceLT, Int.reduceMul, Int.reduceNeg, Int.reducePow, Int.reduceSub, Int.reduceToNat, Nat.reduceAdd, Nat.reduceEqDiff, Nat.reduceLT, Nat.reduceLeDiff, Nat.reduceMul, reduceCtorEq, q6, Int.natCast_add], by simp (disch := omega) only [wu64, wu32, wu8, fdiv_nn, EO, ↓EP, EQ, EM, ↓reduceIte, Int.reduceAdd, Int.reduceEq, Int.reduceLE, Int.reduceLT, Int.reduceMul, Int.reduceNeg, Int.reducePow, Int.reduceSub, Int.reduceToNat, Nat.reduceAdd, Nat.reduceEqDiff, Nat.reduceLT, Nat.reduceLeDiff, Nat.reduceMul, reduceCtorEq], by omega, by omega, rfl, by simp; omega, g4, fun he => ?_, fun he => At.first hnext⟩
            have hd0 : (ints u ++ [46]).drop (k + 1) = [] := List.drop_eq_nil_of_le (by simp; omega)
            rw [hd0, arcsGo] at hnext
            exact hnext.symm
        · have h48f : (at' (ints u) (f : Int) = 48) = False := eq_false h48
          simp (disch := omega) only [wu64, wu32, wu8, fdiv_nn, EO, ↓EP, EQ, EM, ↓reduceIte, Int.reduceAdd, Int.reduceEq, Int.reduceLE, Int.reduceLT, Int.reduceMul, Int.reduceNeg, Int.reducePow, Int.reduceSub, Int.reduceToNat, Nat.reduceAdd, Nat.reduceEqDiff, Nat.reduceLT, Nat.reduceLeDiff, Nat.reduceMul, reduceCtorEq, W_join, h6, h5, r0, S_size, ixs_eq, hff, h48f]
          refine loop_inv (fun t ρ2 w2 => w2 = w1 ∧ ∃ k : Nat, ρ2 8 = .int .i64 k ∧ ρ2 7 = .int .i64 (foldv (seg (ints u) f k)) ∧ f ≤ k ∧ k ≤ i ∧ t = i - k) (i - f) ⟨rfl, f, by simp (disch := omega) only [wu64, wu32, wu8, fdiv_nn, EO, ↓EP, EQ, EM, ↓reduceIte, Int.reduceAdd, Int.reduceEq, Int.reduceLE, Int.reduceLT, Int.reduceMul, Int.reduceNeg, Int.reducePow, Int.reduceSub, Int.reduceToNat, Nat.reduceAdd, Nat.reduceEqDiff, Nat.reduceLT, Nat.reduceLeDiff, Nat.reduceMul, reduceCtorEq, h5], by simp (disch := omega) only [wu64, wu32, wu8, fdiv_nn, EO, ↓EP, EQ, EM, ↓reduceIte, Int.reduceAdd, Int.reduceEq, Int.reduceLE, Int.reduceLT, Int.reduceMul, Int.reduceNeg, Int.reducePow, Int.reduceSub, Int.reduceToNat, Nat.reduceAdd, Nat.reduceEqDiff, Nat.reduceLT, Nat.reduceLeDiff, Nat.reduceMul, reduceCtorEq, seg_self]; rfl, by omega, by omega, rfl⟩ ?_
          rintro t ρ2 w2 hf2 ⟨rfl, k, k8, k7, hfk, hki, rfl⟩ N2 hN2
          have q0 : ρ2 0 = .string (S u) := by rw [hf2 0 rfl]; simp (disch := omega) only [wu64, wu32, wu8, fdiv_nn, EO, ↓EP, EQ, EM, ↓reduceIte, Int.reduceAdd, Int.reduceEq, Int.reduceLE, Int.reduceLT, Int.reduceMul, Int.reduceNeg, Int.reducePow, Int.reduceSub, Int.reduceToNat, Nat.reduceAdd, Nat.reduceEqDiff, Nat.reduceLT, Nat.reduceLeDiff, Nat.reduceMul, reduceCtorEq, r0]
          have q4 : ρ2 4 = X := by rw [hf2 4 rfl]; simp (disch := omega) only [wu64, wu32, wu8, fdiv_nn, EO, ↓EP, EQ, EM, ↓reduceIte, Int.reduceAdd, Int.reduceEq, Int.reduceLE, Int.reduceLT, Int.reduceMul, Int.reduceNeg, Int.reducePow, Int.reduceSub, Int.reduceToNat, Nat.reduceAdd, Nat.reduceEqDiff, Nat.reduceLT, Nat.reduceLeDiff, Nat.reduceMul, reduceCtorEq, h4]
          have q6 : ρ2 6 = .int .i64 i := by rw [hf2 6 rfl]; simp (disch := omega) only [wu64, wu32, wu8, fdiv_nn, EO, ↓EP, EQ, EM, ↓reduceIte, Int.reduceAdd, Int.reduceEq, Int.reduceLE, Int.reduceLT, Int.reduceMul, Int.reduceNeg, Int.reducePow, Int.reduceSub, Int.reduceToNat, Nat.reduceAdd, Nat.reduceEqDiff, Nat.reduceLT, Nat.reduceLeDiff, Nat.reduceMul, reduceCtorEq, h6]
          clear hf2
          have vb := foldv_bd (seg (ints u) f k) 0 (fun x hx => hdig x (seg_sub hki hx)) (by omega) (by omega)
          rw [show (seg (ints u) f k).foldl (fun v c => satA (10 * v + (c - 48))) 0 = foldv (seg (ints u) f k) from rfl] at vb
          by_cases hk : (k : Int) < (i : Int)
          · have ck := hdig _ (seg_mem hfk (show k < i by omega) (by omega))
            have hst : foldv (seg (ints u) f (k + 1)) = satA (10 * foldv (seg (ints u) f k) + (at' (ints u) (k : Int) - 48)) := by rw [seg_snoc hfk (by omega), foldv_snoc]
            generalize foldv (seg (ints u) f k) = V at *
            by_cases hcap : 1099511627776 < V * 10 + (at' (ints u) (k : Int) - 48)
            · rw [show satA (10 * V + (at' (ints u) (k : Int) - 48)) = 1099511627776 by unfold satA; split <;> omega] at hst
              simp (disch := omega) only [wu64, wu32, wu8, fdiv_nn, EO, ↓EP, EQ, EM, ↓reduceIte, Int.reduceAdd, Int.reduceEq, Int.reduceLE, Int.reduceLT, Int.reduceMul, Int.reduceNeg, Int.reducePow, Int.reduceSub, Int.reduceToNat, Nat.reduceAdd, Nat.reduceEqDiff, Nat.reduceLT, Nat.reduceLeDiff, Nat.reduceMul, reduceCtorEq, W_join, k8, k7, q0, q6, S_size, ixs_eq]
              exact hN2 (i - (k + 1)) _ _ (by omega) ⟨rfl, k + 1, by simp (disch := omega) only [wu64, wu32, wu8, fdiv_nn, EO, ↓EP, EQ, EM, ↓reduceIte, Int.reduceAdd, Int.reduceEq, Int.reduceLE, Int.reduceLT, Int.reduceMul, Int.reduceNeg, Int.reducePow, Int.reduceSub, Int.reduceToNat, Nat.reduceAdd, Nat.reduceEqDiff, Nat.reduceLT, Nat.reduceLeDiff, Nat.reduceMul, reduceCtorEq, k8, Int.natCast_add], by simp (disch := omega) only [wu64, wu32, wu8, fdiv_nn, EO, ↓EP, EQ, EM, ↓reduceIte, Int.reduceAdd, Int.reduceEq, Int.reduceLE, Int.reduceLT, Int.reduceMul, Int.reduceNeg, Int.reducePow, Int.reduceSub, Int.reduceToNat, Nat.reduceAdd, Nat.reduceEqDiff, Nat.reduceLT, Nat.reduceLeDiff, Nat.reduceMul, reduceCtorEq, hst], by omega, by omega, rfl⟩
            · rw [show satA (10 * V + (at' (ints u) (k : Int) - 48)) = V * 10 + (at' (ints u) (k : Int) - 48) by unfold satA; split <;> omega] at hst
              simp (disch := omega) only [wu64, wu32, wu8, fdiv_nn, EO, ↓EP, EQ, EM, ↓reduceIte, Int.reduceAdd, Int.reduceEq, Int.reduceLE, Int.reduceLT, Int.reduceMul, Int.reduceNeg, Int.reducePow, Int.reduceSub, Int.reduceToNat, Nat.reduceAdd, Nat.reduceEqDiff, Nat.reduceLT, Nat.reduceLeDiff, Nat.reduceMul, reduceCtorEq, W_join, k8, k7, q0, q6, S_size, ixs_eq]
              exact hN2 (i - (k + 1)) _ _ (by omega) ⟨rfl, k + 1, by simp (disch := omega) only [wu64, wu32, wu8, fdiv_nn, EO, ↓EP, EQ, EM, ↓reduceIte, Int.reduceAdd, Int.reduceEq, Int.reduceLE, Int.reduceLT, Int.reduceMul, Int.reduceNeg, Int.reducePow, Int.reduceSub, Int.reduceToNat, Nat.reduceAdd, Nat.reduceEqDiff, Nat.reduceLT, Nat.reduceLeDiff, Nat.reduceMul, reduceCtorEq, k8, Int.natCast_add], by simp (disch := omega) only [wu64, wu32, wu8, fdiv_nn, EO, ↓EP, EQ, EM, ↓reduceIte, Int.reduceAdd, Int.reduceEq, Int.reduceLE, Int.reduceLT, Int.reduceMul, Int.reduceNeg, Int.reducePow, Int.reduceSub, Int.reduceToNat, Nat.reduceAdd, Nat.reduceEqDiff, Nat.reduceLT, Nat.reduceLeDiff, Nat.reduceMul, reduceCtorEq, hst], by omega, by omega, rfl⟩
          · have hke : k = i := by omega
            subst hke
            clear hN2
            simp (disch := omega) only [wu64, wu32, wu8, fdiv_nn, EO, ↓EP, EQ, EM, ↓reduceIte, Int.reduceAdd, Int.reduceEq, Int.reduceLE, Int.reduceLT, Int.reduceMul, Int.reduceNeg, Int.reducePow, Int.reduceSub, Int.reduceToNat, Nat.reduceAdd, Nat.reduceEqDiff, Nat.reduceLT, Nat.reduceLeDiff, Nat.reduceMul, reduceCtorEq, W_join, k8, k7, q0, q4, q6]
            refine bsl1 fun w3 n3 => ?_
            have g3 := g.new n3
            simp (disch := omega) only [wu64, wu32, wu8, fdiv_nn, EO, ↓EP, EQ, EM, ↓reduceIte, Int.reduceAdd, Int.reduceEq, Int.reduceLE, Int.reduceLT, Int.reduceMul, Int.reduceNeg, Int.reducePow, Int.reduceSub, Int.reduceToNat, Nat.reduceAdd, Nat.reduceEqDiff, Nat.reduceLT, Nat.reduceLeDiff, Nat.reduceMul, reduceCtorEq, W_join, k8, k7, q0, q4, q6]
            refine app_num g3.sl rfl n3.rdv (by simp; omega) (by omega) fun v4 w4 a4 => ?_
            have g4 := g3.apd a4
            simp (disch := omega) only [wu64, wu32, wu8, fdiv_nn, EO, ↓EP, EQ, EM, ↓reduceIte, Int.reduceAdd, Int.reduceEq, Int.reduceLE, Int.reduceLT, Int.reduceMul, Int.reduceNeg, Int.reducePow, Int.reduceSub, Int.reduceToNat, Nat.reduceAdd, Nat.reduceEqDiff, Nat.reduceLT, Nat.reduceLeDiff, Nat.reduceMul, reduceCtorEq, W_join, k8, k7, q0, q4, q6]
            refine hN (u.length + 1 - (k + 1)) _ _ (by omega) ⟨k + 1, k + 1, v4, l ++ [foldv (seg (ints u) f k)], by simp (disch := omega) only [wu64, wu32, wu8, fdiv_nn, EO, ↓EP, EQ, EM, ↓reduceIte, Int.reduceAdd, Int.reduceEq, Int.reduceLE, Int.reduceLT, Int.reduceMul, Int.reduceNeg, Int.reducePow, Int.reduceSub, Int.reduceToNat, Nat.reduceAdd, Nat.reduceEqDiff, Nat.reduceLT, Nat.reduceLeDiff, Nat.reduceMul, reduceCtorEq, q6, Int.natCast_add], by simp (disch := omega) only [wu64, wu32, wu8, fdiv_nn, EO, ↓EP, EQ, EM, ↓reduceIte, Int.reduceAdd, Int.reduceEq, Int.reduceLE, Int.reduceLT, Int.reduceMul, Int.reduceNeg, Int.reducePow, Int.reduceSub, Int.reduceToNat, Nat.reduceAdd, Nat.reduceEqDiff, Nat.reduceLT, Nat.reduceLeDiff, Nat.reduceMul, reduceCtorEq, q6, Int.natCast_add], by simp (disch := omega) only [wu64, wu32, wu8, fdiv_nn, EO, ↓EP, EQ, EM, ↓reduceIte, Int.reduceAdd, Int.reduceEq, Int.reduceLE, Int.reduceLT, Int.reduceMul, Int.reduceNeg, Int.reducePow, Int.reduceSub, Int.reduceToNat, Nat.reduceAdd, Nat.reduceEqDiff, Nat.reduceLT, Nat.reduceLeDiff, Nat.reduceMul, reduceCtorEq], by omega, by omega, rfl, by simp; omega, g4, fun he => ?_, fun he => At.first hnext⟩
            have hd0 : (ints u ++ [46]).drop (k + 1) = [] := List.drop_eq_nil_of_le (by simp; omega)
            rw [hd0, arcsGo] at hnext
            exact hnext.symm
  · have hie : i = u.length + 1 := by omega
    have ht := hend hie
    have hr := hR l ht
    clear hN hat hend
    obtain ⟨XA, xc, rfl, hxc, hXr⟩ := readn g.sl rfl
    have no : (l.length < 2 ∨ 2 < at' l 0 ∨ (at' l 0 < 2 ∧ 40 ≤ at' l 1)) → ∀ w2, Fr w1 w2 nob → K (prb (.slice XA l.length xc) false) w2 := fun h w2 f2 => by
      rw [if_pos h] at hr
      have := hK (.slice XA l.length xc) w2 (g.fr.nb f2) (fun q hq => by rw [hr] at hq; simp at hq)
      rwa [hr] at this
    have yes : ¬ (l.length < 2 ∨ 2 < at' l 0 ∨ (at' l 0 < 2 ∧ 40 ≤ at' l 1)) → ∀ w2, Fr w1 w2 nob → K (prb (.slice XA l.length xc) true) w2 := fun h w2 f2 => by
      rw [if_neg h] at hr
      have := hK (.slice XA l.length xc) w2 (g.fr.nb f2) (fun q hq => by rw [hr] at hq; simp only [Option.some.injEq] at hq; subst hq; exact g.step f2)
      rwa [hr] at this
    by_cases hl2 : l.length < 2
    · simp (disch := omega) only [wu64, wu32, wu8, fdiv_nn, EO, ↓EP, EQ, EM, ↓reduceIte, Int.reduceAdd, Int.reduceEq, Int.reduceLE, Int.reduceLT, Int.reduceMul, Int.reduceNeg, Int.reducePow, Int.reduceSub, Int.reduceToNat, Nat.reduceAdd, Nat.reduceEqDiff, Nat.reduceLT, Nat.reduceLeDiff, Nat.reduceMul, reduceCtorEq, h6, h4, r0, S_size]
      intro m
      exact no (.inl hl2) _ (Fr.drewN w1 _ nob)
    obtain ⟨xa, rfl, cell⟩ := pos_cellsK hXr (by omega)
    have c0 := cell 0 (by omega)
    have c1 := cell 1 (by omega)
    rw [show ((0 : Nat) : Int) = 0 by rfl] at c0
    rw [show ((1 : Nat) : Int) = 1 by rfl] at c1
    by_cases h2 : 2 < at' l 0
    · simp (disch := omega) only [wu64, wu32, wu8, fdiv_nn, EO, ↓EP, EQ, EM, ↓reduceIte, Int.reduceAdd, Int.reduceEq, Int.reduceLE, Int.reduceLT, Int.reduceMul, Int.reduceNeg, Int.reducePow, Int.reduceSub, Int.reduceToNat, Nat.reduceAdd, Nat.reduceEqDiff, Nat.reduceLT, Nat.reduceLeDiff, Nat.reduceMul, reduceCtorEq, h6, h4, r0, S_size, c0, c1]
      intro m
      exact no (.inr (.inl h2)) _ (Fr.drewN w1 _ nob)
    by_cases h3 : at' l 0 = 2
    · rw [h3] at c0
      simp (disch := omega) only [wu64, wu32, wu8, fdiv_nn, EO, ↓EP, EQ, EM, ↓reduceIte, Int.reduceAdd, Int.reduceEq, Int.reduceLE, Int.reduceLT, Int.reduceMul, Int.reduceNeg, Int.reducePow, Int.reduceSub, Int.reduceToNat, Nat.reduceAdd, Nat.reduceEqDiff, Nat.reduceLT, Nat.reduceLeDiff, Nat.reduceMul, reduceCtorEq, h6, h4, r0, S_size, c0, c1]
      intro m
      exact yes (fun h => by rcases h with h | h | h; exact hl2 h; exact h2 h; omega) _ (Fr.drewN w1 _ nob)
    · have h3f : (at' l 0 = 2) = False := eq_false h3
      by_cases h40 : 40 ≤ at' l 1
      · simp (disch := omega) only [wu64, wu32, wu8, fdiv_nn, EO, ↓EP, EQ, EM, ↓reduceIte, Int.reduceAdd, Int.reduceEq, Int.reduceLE, Int.reduceLT, Int.reduceMul, Int.reduceNeg, Int.reducePow, Int.reduceSub, Int.reduceToNat, Nat.reduceAdd, Nat.reduceEqDiff, Nat.reduceLT, Nat.reduceLeDiff, Nat.reduceMul, reduceCtorEq, h6, h4, r0, S_size, c0, c1, h3f]
        intro m
        exact no (.inr (.inr ⟨by omega, h40⟩)) _ (Fr.drewN w1 _ nob)
      · simp (disch := omega) only [wu64, wu32, wu8, fdiv_nn, EO, ↓EP, EQ, EM, ↓reduceIte, Int.reduceAdd, Int.reduceEq, Int.reduceLE, Int.reduceLT, Int.reduceMul, Int.reduceNeg, Int.reducePow, Int.reduceSub, Int.reduceToNat, Nat.reduceAdd, Nat.reduceEqDiff, Nat.reduceLT, Nat.reduceLeDiff, Nat.reduceMul, reduceCtorEq, h6, h4, r0, S_size, c0, c1, h3f]
        intro m
        exact yes (fun h => by rcases h with h | h | h; exact hl2 h; exact h2 h; exact h40 h.2) _ (Fr.drewN w1 _ nob)
end Go.Proofs.YtcgplgpdcfocpaaDoor.Der
end
section
set_option linter.unusedVariables false
set_option linter.unusedSimpArgs false
namespace Go.Proofs.YtcgplgpdcfocpaaDoor.Der
open Go Go.RowKit Go.Proofs Go.Proofs.YtcgplgpdcfocpaaDoor.Eng Go.Proofs.YtcgplgpdcfocpaaDoor.Code
set_option maxRecDepth 100000
attribute [local irreducible] callK S.W opsW scrW scrT
theorem at_app {l pad : List Int} {i : Nat} (h : i < l.length) : at' (l ++ pad) (i : Int) = at' l (i : Int) := by
  rw [atN, atN, List.getD_eq_getElem?_getD, List.getD_eq_getElem?_getD, List.getElem?_append_left h]
set_option maxHeartbeats 4000000 in
theorem rputoid_vw {w : World} {u : List UInt8} (hm : u.length ≤ 1073741824) (K : Value → World → Prop)
    (hK : ∀ v' w', Gw .u8 w w' v' (putOidR (ints u)).1 → K (pr2 v' (putOidR (ints u)).2) w') : callK Tryd.prog 62 [.string (S u)] w K := by
  refine call_of Tryd.func62 Code.h62 (by simp [Code.c62]) ?_
  simp (disch := omega) only [wu64, wu32, wu8, fdiv_nn, EO, ↓EP, EQ, EM, ↓reduceIte, Int.reduceAdd, Int.reduceEq, Int.reduceLE, Int.reduceLT, Int.reduceMul, Int.reduceNeg, Int.reducePow, Int.reduceSub, Int.reduceToNat, Nat.reduceAdd, Nat.reduceEqDiff, Nat.reduceLT, Nat.reduceLeDiff, Nat.reduceMul, reduceCtorEq, Code.c62]
  refine rarcs_vw hm _ fun v1 w1 f1 hg => ?_
  simp only [prb]
  unfold putOidR at hK
  cases hl : arcsR (ints u) with
  | none =>
    rw [hl] at hK
    simp only [Option.isSome_none] at hK ⊢
    simp (disch := omega) only [wu64, wu32, wu8, fdiv_nn, EO, ↓EP, EQ, EM, ↓reduceIte, Int.reduceAdd, Int.reduceEq, Int.reduceLE, Int.reduceLT, Int.reduceMul, Int.reduceNeg, Int.reducePow, Int.reduceSub, Int.reduceToNat, Nat.reduceAdd, Nat.reduceEqDiff, Nat.reduceLT, Nat.reduceLeDiff, Nat.reduceMul, reduceCtorEq, Bool.not_false]
    exact hK _ w1 ((Gw.nil .u8 w).step f1)
  | some l =>
  have g1 := hg l hl
  clear hg
  rw [hl] at hK
  simp only [Option.isSome_some] at hK ⊢
  obtain ⟨hbd, hll, h2, h02⟩ := arcs_bd hl
  rw [ints_len] at hll
  obtain ⟨A, c, rfl, hc, hr⟩ := readn g1.sl rfl
  obtain ⟨ad, rfl, cell⟩ := pos_cellsK hr (by omega)
  simp (disch := omega) only [wu64, wu32, wu8, fdiv_nn, EO, ↓EP, EQ, EM, ↓reduceIte, Int.reduceAdd, Int.reduceEq, Int.reduceLE, Int.reduceLT, Int.reduceMul, Int.reduceNeg, Int.reducePow, Int.reduceSub, Int.reduceToNat, Nat.reduceAdd, Nat.reduceEqDiff, Nat.reduceLT, Nat.reduceLeDiff, Nat.reduceMul, reduceCtorEq, Bool.not_true]
  refine loop_inv (fun t ρ w' => w' = w1 ∧ ∃ i : Nat, ρ 6 = .int .i64 i ∧ i ≤ l.length ∧ t = l.length - i ∧ (l.drop i).any (fun v => decide (2147483647 < v)) = l.any (fun v => decide (2147483647 < v))) l.length ⟨rfl, 0, by simp (disch := omega) only [wu64, wu32, wu8, fdiv_nn, EO, ↓EP, EQ, EM, ↓reduceIte, Int.reduceAdd, Int.reduceEq, Int.reduceLE, Int.reduceLT, Int.reduceMul, Int.reduceNeg, Int.reducePow, Int.reduceSub, Int.reduceToNat, Nat.reduceAdd, Nat.reduceEqDiff, Nat.reduceLT, Nat.reduceLeDiff, Nat.reduceMul, reduceCtorEq], by omega, by omega, by simp⟩ ?_
  rintro t ρ w' hf ⟨rfl, i, h6, hi, rfl, hany⟩ N hN
  have r4 : ρ 4 = .slice (some ad) l.length c := by rw [hf 4 rfl]; simp (disch := omega) only [wu64, wu32, wu8, fdiv_nn, EO, ↓EP, EQ, EM, ↓reduceIte, Int.reduceAdd, Int.reduceEq, Int.reduceLE, Int.reduceLT, Int.reduceMul, Int.reduceNeg, Int.reducePow, Int.reduceSub, Int.reduceToNat, Nat.reduceAdd, Nat.reduceEqDiff, Nat.reduceLT, Nat.reduceLeDiff, Nat.reduceMul, reduceCtorEq]
  clear hf
  by_cases hil : (i : Int) < (l.length : Int)
  · have ci := cell i (by omega)
    rw [drop_at (show i < l.length by omega), List.any_cons] at hany
    by_cases hb : 2147483647 < at' l (i : Int)
    · rw [decide_eq_true hb, Bool.true_or] at hany
      rw [if_pos hany.symm] at hK
      simp (disch := omega) only [wu64, wu32, wu8, fdiv_nn, EO, ↓EP, EQ, EM, ↓reduceIte, Int.reduceAdd, Int.reduceEq, Int.reduceLE, Int.reduceLT, Int.reduceMul, Int.reduceNeg, Int.reducePow, Int.reduceSub, Int.reduceToNat, Nat.reduceAdd, Nat.reduceEqDiff, Nat.reduceLT, Nat.reduceLeDiff, Nat.reduceMul, reduceCtorEq, W_join, h6, r4, ci]
      exact hK _ w' ((Gw.nil .u8 w).step f1)
    · rw [decide_eq_false hb, Bool.false_or] at hany
      simp (disch := omega) only [wu64, wu32, wu8, fdiv_nn, EO, ↓EP, EQ, EM, ↓reduceIte, Int.reduceAdd, Int.reduceEq, Int.reduceLE, Int.reduceLT, Int.reduceMul, Int.reduceNeg, Int.reducePow, Int.reduceSub, Int.reduceToNat, Nat.reduceAdd, Nat.reduceEqDiff, Nat.reduceLT, Nat.reduceLeDiff, Nat.reduceMul, reduceCtorEq, W_join, h6, r4, ci]
      exact hN (l.length - (i + 1)) _ _ (by omega) ⟨rfl, i + 1, by simp (disch := omega) only [wu64, wu32, wu8, fdiv_nn, EO, ↓EP, EQ, EM, ↓reduceIte, Int.reduceAdd, Int.reduceEq, Int.reduceLE, Int.reduceLT, Int.reduceMul, Int.reduceNeg, Int.reducePow, Int.reduceSub, Int.reduceToNat, Nat.reduceAdd, Nat.reduceEqDiff, Nat.reduceLT, Nat.reduceLeDiff, Nat.reduceMul, reduceCtorEq, h6, Int.natCast_add], by omega, rfl, hany⟩
  have hie : i = l.length := by omega
  subst hie
  rw [List.drop_length, List.any_nil] at hany
  rw [if_neg (by rw [← hany]; simp)] at hK
  have hsm : ∀ i : Nat, i < l.length → 0 ≤ at' l (i : Int) ∧ at' l (i : Int) ≤ 2147483647 := fun i hi => by
    have h1 := hbd _ (at_mem hi)
    refine ⟨h1.1, ?_⟩
    apply Int.le_of_not_gt
    intro hgt
    have : l.any (fun v => decide (2147483647 < v)) = true := List.any_eq_true.2 ⟨_, at_mem hi, decide_eq_true hgt⟩
    rw [this] at hany
    simp at hany
  clear hany hN
  have b0 := hsm 0 (by omega)
  have b1 := hsm 1 (by omega)
  rw [show ((0 : Nat) : Int) = 0 by rfl] at b0
  rw [show ((1 : Nat) : Int) = 1 by rfl] at b1
  rcases g1.sl with ⟨hnil, _⟩ | ⟨b, pad, e, hB⟩
  · subst hnil; simp at h2
  cases e
  have c0 := hB.numN (j := 0) (by simp; omega)
  have c1 := hB.numN (j := 1) (by simp; omega)
  rw [at_app (by omega), show ((0 : Nat) : Int) = 0 by rfl] at c0
  rw [at_app (by omega), show ((1 : Nat) : Int) = 1 by rfl] at c1
  obtain ⟨z, hz⟩ : ∃ z : Nat, at' l 1 + 40 * at' l 0 = (z : Int) := ⟨(at' l 1 + 40 * at' l 0).toNat, by omega⟩
  rw [show (40 * at' l 0 + at' l 1).toNat = z by omega] at hK
  simp (disch := omega) only [wu64, wu32, wu8, fdiv_nn, EO, ↓EP, EQ, EM, ↓reduceIte, Int.reduceAdd, Int.reduceEq, Int.reduceLE, Int.reduceLT, Int.reduceMul, Int.reduceNeg, Int.reducePow, Int.reduceSub, Int.reduceToNat, Nat.reduceAdd, Nat.reduceEqDiff, Nat.reduceLT, Nat.reduceLeDiff, Nat.reduceMul, reduceCtorEq, W_join, h6, r4, c0, c1, hz, Addr.add_lit, Nat.zero_add]
  intro m1
  have hb1 := g1.up b rfl
  refine st_num (hB.fr (Fr.drewN w' m1 nob) (fun x => x)) (by simp; omega) fun w2 p2 => ?_
  have eset : (l ++ pad).set 1 (z : Int) = l.set 1 (z : Int) ++ pad := by rw [List.set_append_left _ _ (by omega)]
  rw [eset] at p2
  have f2b : Fr w' w2 (fun x => x = b) := (Fr.drewN w' m1 _).trans p2.fr (fun x _ h => h)
  have f2 : Fr w w2 nob := f1.trans f2b (fun x hx e => by
    have : x = b := e
    omega)
  have hq2 : l.set 1 (z : Int) = at' l 0 :: (z : Int) :: l.drop 2 := by
    match l, h2 with
    | a :: b :: r, _ => rfl
  have hql : (l.set 1 (z : Int)).length = l.length := by simp
  have hr2 : Rd w2 (some ⟨b, 0, none⟩) (nums .i64 (l.set 1 (z : Int))) := p2.blk.rd 0 (n := l.length) (by rw [List.drop_zero, nums_take, ← hql, List.take_left])
  have hqs : ∀ i : Nat, 1 ≤ i → i < l.length → 0 ≤ at' (l.set 1 (z : Int)) (i : Int) ∧ at' (l.set 1 (z : Int)) (i : Int) ≤ 2147483727 := fun i h1 hi => by
    by_cases h : i = 1
    · subst h
      rw [hq2, atN]
      simp
      omega
    · have := hsm i hi
      rw [atN, List.getD_eq_getElem?_getD] at this ⊢
      rw [List.getElem?_set_ne (fun e => h e.symm)]
      omega
  have hfin : sevenR z ++ (l.drop 2).flatMap (fun v => sevenR v.toNat) = sevens ((l.set 1 (z : Int)).drop 1) := by
    rw [hq2]; simp [sevens]
  rw [hfin] at hK
  generalize l.set 1 (z : Int) = q at hr2 hqs hql hK
  simp (disch := omega) only [wu64, wu32, wu8, fdiv_nn, EO, ↓EP, EQ, EM, ↓reduceIte, Int.reduceAdd, Int.reduceEq, Int.reduceLE, Int.reduceLT, Int.reduceMul, Int.reduceNeg, Int.reducePow, Int.reduceSub, Int.reduceToNat, Nat.reduceAdd, Nat.reduceEqDiff, Nat.reduceLT, Nat.reduceLeDiff, Nat.reduceMul, reduceCtorEq]
  refine loop_inv (fun t ρ3 w4 => ∃ (i : Nat) (B : Value), ρ3 8 = .int .i64 i ∧ ρ3 7 = B ∧ 1 ≤ i ∧ i ≤ l.length ∧ t = l.length - i ∧ Gw .u8 w2 w4 B (sevens ((q.drop 1).take (i - 1))) ∧ (sevens ((q.drop 1).take (i - 1))).length ≤ 11 * i) (l.length - 1) ⟨1, _, by simp (disch := omega) only [wu64, wu32, wu8, fdiv_nn, EO, ↓EP, EQ, EM, ↓reduceIte, Int.reduceAdd, Int.reduceEq, Int.reduceLE, Int.reduceLT, Int.reduceMul, Int.reduceNeg, Int.reducePow, Int.reduceSub, Int.reduceToNat, Nat.reduceAdd, Nat.reduceEqDiff, Nat.reduceLT, Nat.reduceLeDiff, Nat.reduceMul, reduceCtorEq, Int.natCast_one], by simp (disch := omega) only [wu64, wu32, wu8, fdiv_nn, EO, ↓EP, EQ, EM, ↓reduceIte, Int.reduceAdd, Int.reduceEq, Int.reduceLE, Int.reduceLT, Int.reduceMul, Int.reduceNeg, Int.reducePow, Int.reduceSub, Int.reduceToNat, Nat.reduceAdd, Nat.reduceEqDiff, Nat.reduceLT, Nat.reduceLeDiff, Nat.reduceMul, reduceCtorEq], by omega, by omega, by omega, Gw.nil .u8 w2, by simp [sevens]⟩ ?_
  rintro t ρ3 w4 hf ⟨i, B, k8, k7, hi1, hil2, rfl, G, hlen⟩ N hN
  have q4 : ρ3 4 = .slice (some ⟨b, 0, none⟩) l.length (l.length + pad.length) := by rw [hf 4 rfl]; simp (disch := omega) only [wu64, wu32, wu8, fdiv_nn, EO, ↓EP, EQ, EM, ↓reduceIte, Int.reduceAdd, Int.reduceEq, Int.reduceLE, Int.reduceLT, Int.reduceMul, Int.reduceNeg, Int.reducePow, Int.reduceSub, Int.reduceToNat, Nat.reduceAdd, Nat.reduceEqDiff, Nat.reduceLT, Nat.reduceLeDiff, Nat.reduceMul, reduceCtorEq, r4]
  clear hf
  by_cases hlt : (i : Int) < (l.length : Int)
  · have cellq : ∀ w5, Fr w2 w5 nob → w5.cell? ⟨b, i, none⟩ = some (.int .i64 (at' q (i : Int))) := fun w5 f => by
      obtain ⟨ad', e', _, hcl⟩ := (hr2.nb f).get (by rw [nums_length]; omega)
      cases e'
      have := hcl.numN (j := i) (by omega)
      rwa [Addr.add_lit, Nat.zero_add] at this
    have bq := hqs i hi1 (by omega)
    obtain ⟨y, hy⟩ : ∃ y : Nat, at' q (i : Int) = (y : Int) := ⟨(at' q (i : Int)).toNat, by omega⟩
    have hst : sevens ((q.drop 1).take (i + 1 - 1)) = sevens ((q.drop 1).take (i - 1)) ++ sevenR y := by
      rw [show i + 1 - 1 = (i - 1) + 1 by omega, take_snoc (by simp; omega), sevens_snoc, at_drop, show 1 + (i - 1) = i by omega, hy, Int.toNat_natCast]
    rw [hy] at cellq
    have ci := cellq w4 G.fr
    have em : (y : Int) % 128 = ((y % 128 : Nat) : Int) := by omega
    simp (disch := omega) only [wu64, wu32, wu8, fdiv_nn, EO, ↓EP, EQ, EM, ↓reduceIte, Int.reduceAdd, Int.reduceEq, Int.reduceLE, Int.reduceLT, Int.reduceMul, Int.reduceNeg, Int.reducePow, Int.reduceSub, Int.reduceToNat, Nat.reduceAdd, Nat.reduceEqDiff, Nat.reduceLT, Nat.reduceLeDiff, Nat.reduceMul, reduceCtorEq, k8, k7, q4, ci, em, Addr.add_lit, Nat.zero_add]
    refine bsl1 fun w5 n5 => ?_
    have ci5 := cellq w5 (G.fr.nb (n5.fr nob))
    have g5 : Gw .u8 w4 w5 (.slice (some ⟨w4.heap.size, 0, none⟩) 1 1) [((y % 128 : Nat) : Int)] := ⟨n5.sl, fun b e => by cases e; exact Nat.le_refl _, n5.fr nob⟩
    simp (disch := omega) only [wu64, wu32, wu8, fdiv_nn, EO, ↓EP, EQ, EM, ↓reduceIte, Int.reduceAdd, Int.reduceEq, Int.reduceLE, Int.reduceLT, Int.reduceMul, Int.reduceNeg, Int.reducePow, Int.reduceSub, Int.reduceToNat, Nat.reduceAdd, Nat.reduceEqDiff, Nat.reduceLT, Nat.reduceLeDiff, Nat.reduceMul, reduceCtorEq, k8, k7, q4, ci5, Addr.add_lit, Nat.zero_add]
    refine loop_inv (fun t ρ6 w6 => ∃ (x f : Nat) (C : Value) (lst : List Int), ρ6 10 = .int .i64 x ∧ ρ6 9 = C ∧ Gw .u8 w4 w6 C lst ∧ t = x ∧ x < 128 ^ f ∧ f ≤ 10 ∧ lst.length + f ≤ 11 ∧ x < 9223372036854775808 ∧ sevenHi f x ++ lst = sevenR y) (y / 128) ⟨y / 128, 10, _, _, by simp (disch := omega) only [wu64, wu32, wu8, fdiv_nn, EO, ↓EP, EQ, EM, ↓reduceIte, Int.reduceAdd, Int.reduceEq, Int.reduceLE, Int.reduceLT, Int.reduceMul, Int.reduceNeg, Int.reducePow, Int.reduceSub, Int.reduceToNat, Nat.reduceAdd, Nat.reduceEqDiff, Nat.reduceLT, Nat.reduceLeDiff, Nat.reduceMul, reduceCtorEq, Int.natCast_ediv], by simp (disch := omega) only [wu64, wu32, wu8, fdiv_nn, EO, ↓EP, EQ, EM, ↓reduceIte, Int.reduceAdd, Int.reduceEq, Int.reduceLE, Int.reduceLT, Int.reduceMul, Int.reduceNeg, Int.reducePow, Int.reduceSub, Int.reduceToNat, Nat.reduceAdd, Nat.reduceEqDiff, Nat.reduceLT, Nat.reduceLeDiff, Nat.reduceMul, reduceCtorEq], g5, rfl, by omega, by omega, by simp, by omega, by simp [sevenR]⟩ ?_
    rintro t ρ6 w6 hf6 ⟨x, f, C, lst, k10, k9, gC, ht, hx, hf10, hl11, hx63, hsv⟩ N6 hN6
    have s4 : ρ6 4 = .slice (some ⟨b, 0, none⟩) l.length (l.length + pad.length) := by rw [hf6 4 rfl]; simp (disch := omega) only [wu64, wu32, wu8, fdiv_nn, EO, ↓EP, EQ, EM, ↓reduceIte, Int.reduceAdd, Int.reduceEq, Int.reduceLE, Int.reduceLT, Int.reduceMul, Int.reduceNeg, Int.reducePow, Int.reduceSub, Int.reduceToNat, Nat.reduceAdd, Nat.reduceEqDiff, Nat.reduceLT, Nat.reduceLeDiff, Nat.reduceMul, reduceCtorEq, q4]
    have s7 : ρ6 7 = B := by rw [hf6 7 rfl]; simp (disch := omega) only [wu64, wu32, wu8, fdiv_nn, EO, ↓EP, EQ, EM, ↓reduceIte, Int.reduceAdd, Int.reduceEq, Int.reduceLE, Int.reduceLT, Int.reduceMul, Int.reduceNeg, Int.reducePow, Int.reduceSub, Int.reduceToNat, Nat.reduceAdd, Nat.reduceEqDiff, Nat.reduceLT, Nat.reduceLeDiff, Nat.reduceMul, reduceCtorEq, k7]
    have s8 : ρ6 8 = .int .i64 i := by rw [hf6 8 rfl]; simp (disch := omega) only [wu64, wu32, wu8, fdiv_nn, EO, ↓EP, EQ, EM, ↓reduceIte, Int.reduceAdd, Int.reduceEq, Int.reduceLE, Int.reduceLT, Int.reduceMul, Int.reduceNeg, Int.reducePow, Int.reduceSub, Int.reduceToNat, Nat.reduceAdd, Nat.reduceEqDiff, Nat.reduceLT, Nat.reduceLeDiff, Nat.reduceMul, reduceCtorEq, k8]
    clear hf6
    obtain ⟨CA, cc, rfl, hcc, hCr⟩ := readn gC.sl rfl
    by_cases hx0 : x = 0
    · rw [hx0] at k10 hsv
      rw [sevenHi_z, List.nil_append] at hsv
      subst hsv
      clear hN6
      have hs11 := seven_len y
      simp (disch := omega) only [wu64, wu32, wu8, fdiv_nn, EO, ↓EP, EQ, EM, ↓reduceIte, Int.reduceAdd, Int.reduceEq, Int.reduceLE, Int.reduceLT, Int.reduceMul, Int.reduceNeg, Int.reducePow, Int.reduceSub, Int.reduceToNat, Nat.reduceAdd, Nat.reduceEqDiff, Nat.reduceLT, Nat.reduceLeDiff, Nat.reduceMul, reduceCtorEq, k10, k9, s7, s8, Int.natCast_zero]
      refine app_num (G.step gC.fr).sl rfl hCr (by omega) (by omega) fun v7 w7 a7 => ?_
      have g7 := (G.step gC.fr).apd a7
      rw [← hst] at g7
      simp (disch := omega) only [wu64, wu32, wu8, fdiv_nn, EO, ↓EP, EQ, EM, ↓reduceIte, Int.reduceAdd, Int.reduceEq, Int.reduceLE, Int.reduceLT, Int.reduceMul, Int.reduceNeg, Int.reducePow, Int.reduceSub, Int.reduceToNat, Nat.reduceAdd, Nat.reduceEqDiff, Nat.reduceLT, Nat.reduceLeDiff, Nat.reduceMul, reduceCtorEq, k10, k9, s7, s8]
      exact hN (l.length - (i + 1)) _ _ (by omega) ⟨i + 1, v7, by simp (disch := omega) only [wu64, wu32, wu8, fdiv_nn, EO, ↓EP, EQ, EM, ↓reduceIte, Int.reduceAdd, Int.reduceEq, Int.reduceLE, Int.reduceLT, Int.reduceMul, Int.reduceNeg, Int.reducePow, Int.reduceSub, Int.reduceToNat, Nat.reduceAdd, Nat.reduceEqDiff, Nat.reduceLT, Nat.reduceLeDiff, Nat.reduceMul, reduceCtorEq, s8, Int.natCast_add], by simp (disch := omega) only [wu64, wu32, wu8, fdiv_nn, EO, ↓EP, EQ, EM, ↓reduceIte, Int.reduceAdd, Int.reduceEq, Int.reduceLE, Int.reduceLT, Int.reduceMul, Int.reduceNeg, Int.reducePow, Int.reduceSub, Int.reduceToNat, Nat.reduceAdd, Nat.reduceEqDiff, Nat.reduceLT, Nat.reduceLeDiff, Nat.reduceMul, reduceCtorEq], by omega, by omega, rfl, g7, by rw [hst, List.length_append]; omega⟩
    · obtain ⟨f, rfl⟩ : ∃ g, f = g + 1 := by
        cases f with
        | zero => simp at hx; omega
        | succ f => exact ⟨f, rfl⟩
      rw [Nat.pow_succ] at hx
      rw [sevenHi, if_neg hx0] at hsv
      have em2 : (x : Int) % 128 + 128 = ((x % 128 + 128 : Nat) : Int) := by omega
      simp (disch := omega) only [wu64, wu32, wu8, fdiv_nn, EO, ↓EP, EQ, EM, ↓reduceIte, Int.reduceAdd, Int.reduceEq, Int.reduceLE, Int.reduceLT, Int.reduceMul, Int.reduceNeg, Int.reducePow, Int.reduceSub, Int.reduceToNat, Nat.reduceAdd, Nat.reduceEqDiff, Nat.reduceLT, Nat.reduceLeDiff, Nat.reduceMul, reduceCtorEq, k10, k9, em2]
      refine bsl1 fun w7 n7 => ?_
      simp (disch := omega) only [wu64, wu32, wu8, fdiv_nn, EO, ↓EP, EQ, EM, ↓reduceIte, Int.reduceAdd, Int.reduceEq, Int.reduceLE, Int.reduceLT, Int.reduceMul, Int.reduceNeg, Int.reducePow, Int.reduceSub, Int.reduceToNat, Nat.reduceAdd, Nat.reduceEqDiff, Nat.reduceLT, Nat.reduceLeDiff, Nat.reduceMul, reduceCtorEq, k10, k9]
      refine app_num n7.sl rfl (hCr.nb (n7.fr nob)) (by simp; omega) (by omega) fun v8 w8 a8 => ?_
      have g8 : Gw .u8 w6 w8 v8 (((x % 128 + 128 : Nat) : Int) :: lst) :=
        (⟨n7.sl, fun b e => by cases e; exact Nat.le_refl _, n7.fr nob⟩ : Gw .u8 w6 w7 (.slice (some ⟨w6.heap.size, 0, none⟩) 1 1) [((x % 128 + 128 : Nat) : Int)]).apd a8
      simp (disch := omega) only [wu64, wu32, wu8, fdiv_nn, EO, ↓EP, EQ, EM, ↓reduceIte, Int.reduceAdd, Int.reduceEq, Int.reduceLE, Int.reduceLT, Int.reduceMul, Int.reduceNeg, Int.reducePow, Int.reduceSub, Int.reduceToNat, Nat.reduceAdd, Nat.reduceEqDiff, Nat.reduceLT, Nat.reduceLeDiff, Nat.reduceMul, reduceCtorEq, k10]
      exact hN6 (x / 128) _ _ (by omega) ⟨x / 128, f, v8, _, by simp (disch := omega) only [wu64, wu32, wu8, fdiv_nn, EO, ↓EP, EQ, EM, ↓reduceIte, Int.reduceAdd, Int.reduceEq, Int.reduceLE, Int.reduceLT, Int.reduceMul, Int.reduceNeg, Int.reducePow, Int.reduceSub, Int.reduceToNat, Nat.reduceAdd, Nat.reduceEqDiff, Nat.reduceLT, Nat.reduceLeDiff, Nat.reduceMul, reduceCtorEq, k10, Int.natCast_ediv], by simp (disch := omega) only [wu64, wu32, wu8, fdiv_nn, EO, ↓EP, EQ, EM, ↓reduceIte, Int.reduceAdd, Int.reduceEq, Int.reduceLE, Int.reduceLT, Int.reduceMul, Int.reduceNeg, Int.reducePow, Int.reduceSub, Int.reduceToNat, Nat.reduceAdd, Nat.reduceEqDiff, Nat.reduceLT, Nat.reduceLeDiff, Nat.reduceMul, reduceCtorEq], g8.from gC.fr, rfl, by omega, by omega, by simp at hl11 ⊢; omega, by omega, by rw [← hsv]; simp⟩
  · have hie : i = l.length := by omega
    subst hie
    rw [List.take_of_length_le (by simp; omega)] at G
    simp (disch := omega) only [wu64, wu32, wu8, fdiv_nn, EO, ↓EP, EQ, EM, ↓reduceIte, Int.reduceAdd, Int.reduceEq, Int.reduceLE, Int.reduceLT, Int.reduceMul, Int.reduceNeg, Int.reducePow, Int.reduceSub, Int.reduceToNat, Nat.reduceAdd, Nat.reduceEqDiff, Nat.reduceLT, Nat.reduceLeDiff, Nat.reduceMul, reduceCtorEq, k8, k7, q4]
    exact hK _ w4 (G.from f2)
end Go.Proofs.YtcgplgpdcfocpaaDoor.Der
end
section
set_option linter.unusedVariables false
set_option linter.unusedSimpArgs false
namespace Go.Proofs.YtcgplgpdcfocpaaDoor.Der
open Go Go.RowKit Go.Proofs Go.Proofs.YtcgplgpdcfocpaaDoor.Eng Go.Proofs.YtcgplgpdcfocpaaDoor.Code
set_option maxRecDepth 100000
attribute [local irreducible] callK S.W opsW scrW scrT
open Go.Proofs.YtcgplgpdcfocpaaDoor.Spec
def oidU (alg : Int) : List UInt8 :=
  if alg = 1 then [49, 46, 51, 46, 49, 52, 46, 51, 46, 50, 46, 50, 54]
  else if alg = 2 then [50, 46, 49, 54, 46, 56, 52, 48, 46, 49, 46, 49, 48, 49, 46, 51, 46, 52, 46, 50, 46, 49]
  else if alg = 3 then [50, 46, 49, 54, 46, 56, 52, 48, 46, 49, 46, 49, 48, 49, 46, 51, 46, 52, 46, 50, 46, 50]
  else [50, 46, 49, 54, 46, 56, 52, 48, 46, 49, 46, 49, 48, 49, 46, 51, 46, 52, 46, 50, 46, 51]
def oidP (alg : Int) : List Int := (putOidR (ints (oidU alg))).1
def infoR (alg : Int) (sum : List Int) : List Int :=
  (putR 0 16 true [(putR 0 16 true [(putR 0 6 false [oidP alg]).1, (putR 0 5 false []).1]).1, (putR 0 4 false [sum]).1]).1
def padR (alg : Int) (sum : List Int) (n : Int) : List Int × Int :=
  if sizeI alg = 0 ∨ (sum.length : Int) ≠ sizeI alg ∨ 2048 < n then ([], 1)
  else if n < (infoR alg sum).length + 11 then ([], 2)
  else ([0, 1] ++ List.replicate (n.toNat - (infoR alg sum).length - 3) 255 ++ [0] ++ infoR alg sum, 0)
theorem putR_len (cls tag : Int) (cons : Bool) (ls : List (List Int)) : (putR cls tag cons ls).1.length ≤ 17 + (ls.map List.length).sum := by
  unfold putR
  split
  · simp
  · split
    · simp
    · rw [headR_eq]
      simp only [List.length_append, List.length_flatten]
      have h1 := headA_len (firstR cls cons) tag
      have h2 := lenB_len (ls.map List.length).sum
      omega
theorem oid_len (alg : Int) : (oidP alg).length ≤ 30 := by
  have h1 : (putOidR (ints (oidU 1))).1.length ≤ 30 := by decide +kernel
  have h2 : (putOidR (ints (oidU 2))).1.length ≤ 30 := by decide +kernel
  have h3 : (putOidR (ints (oidU 3))).1.length ≤ 30 := by decide +kernel
  have h4 : (putOidR (ints (oidU 4))).1.length ≤ 30 := by decide +kernel
  unfold oidP
  by_cases e1 : alg = 1
  · subst e1; exact h1
  by_cases e2 : alg = 2
  · subst e2; exact h2
  by_cases e3 : alg = 3
  · subst e3; exact h3
  have : oidU alg = oidU 4 := by unfold oidU; rw [if_neg e1, if_neg e2, if_neg e3]; rfl
  rw [this]; exact h4
theorem info_len {alg : Int} {sum : List Int} (h : sum.length ≤ 64) : (infoR alg sum).length ≤ 200 := by
  unfold infoR
  have a := putR_len 0 16 true [(putR 0 16 true [(putR 0 6 false [oidP alg]).1, (putR 0 5 false []).1]).1, (putR 0 4 false [sum]).1]
  have b := putR_len 0 16 true [(putR 0 6 false [oidP alg]).1, (putR 0 5 false []).1]
  have c := putR_len 0 6 false [oidP alg]
  have d := putR_len 0 5 false []
  have e := putR_len 0 4 false [sum]
  have f := oid_len alg
  simp only [List.map_cons, List.map_nil, List.sum_cons, List.sum_nil] at a b c d e
  omega
theorem oidU_len (alg : Int) : (oidU alg).length ≤ 22 := by
  unfold oidU
  repeat' split
  all_goals decide
theorem LV.emp (w : World) : LV w (.slice none 0 0) [] := ⟨⟨none, 0, [], rfl, Nat.le_refl _, Rd.nil _ _, rfl, fun i v l h => by simp at h⟩⟩
theorem LV.one {w w' : World} {A : Option Addr} {c : Nat} {p : List Int} (n : New w w' [.slice A p.length c]) (hp : Vw .u8 w (.slice A p.length c) p) : LV w' (.slice (some ⟨w.heap.size, 0, none⟩) 1 1) [p] := by
  refine ⟨⟨_, _, _, rfl, Nat.le_refl _, n.rdv, rfl, fun i v l h1 h2 => ?_⟩⟩
  match i, h1, h2 with
  | 0, h1, h2 => simp at h1 h2; subst h1 h2; exact hp.nb (n.fr nob)
  | i + 1, h1, h2 => simp at h1
theorem LV.two {w w' : World} {A B : Option Addr} {c d : Nat} {p q : List Int} (n : New w w' [.slice A p.length c, .slice B q.length d]) (hp : Vw .u8 w (.slice A p.length c) p) (hq : Vw .u8 w (.slice B q.length d) q) : LV w' (.slice (some ⟨w.heap.size, 0, none⟩) 2 2) [p, q] := by
  refine ⟨⟨_, _, _, rfl, Nat.le_refl _, n.rdv, rfl, fun i v l h1 h2 => ?_⟩⟩
  match i, h1, h2 with
  | 0, h1, h2 => simp at h1 h2; subst h1 h2; exact hp.nb (n.fr nob)
  | 1, h1, h2 => simp at h1 h2; subst h1 h2; exact hq.nb (n.fr nob)
  | i + 2, h1, h2 => simp at h1
theorem oid_k {alg : Int} {w : World} {K : Value → World → Prop} (hK : K (.string (S (oidU alg))) w) : callK Tryd.prog 57 [.int .i64 alg] w K := by
  refine call_of Tryd.func57 Code.h57 (by simp [Code.c57]) ?_
  unfold oidU at hK
  by_cases e1 : alg = 1
  · simp (disch := omega) only [wu64, wu32, wu8, fdiv_nn, EO, ↓EP, EQ, EM, ↓reduceIte, Int.reduceAdd, Int.reduceEq, Int.reduceLE, Int.reduceLT, Int.reduceMul, Int.reduceNeg, Int.reducePow, Int.reduceSub, Int.reduceToNat, Nat.reduceAdd, Nat.reduceEqDiff, Nat.reduceLT, Nat.reduceLeDiff, Nat.reduceMul, reduceCtorEq, Code.c57, e1]
    rw [if_pos e1] at hK; exact hK
  by_cases e2 : alg = 2
  · simp (disch := omega) only [wu64, wu32, wu8, fdiv_nn, EO, ↓EP, EQ, EM, ↓reduceIte, Int.reduceAdd, Int.reduceEq, Int.reduceLE, Int.reduceLT, Int.reduceMul, Int.reduceNeg, Int.reducePow, Int.reduceSub, Int.reduceToNat, Nat.reduceAdd, Nat.reduceEqDiff, Nat.reduceLT, Nat.reduceLeDiff, Nat.reduceMul, reduceCtorEq, Code.c57, e1, e2]
    rw [if_neg e1, if_pos e2] at hK; exact hK
  by_cases e3 : alg = 3
  · simp (disch := omega) only [wu64, wu32, wu8, fdiv_nn, EO, ↓EP, EQ, EM, ↓reduceIte, Int.reduceAdd, Int.reduceEq, Int.reduceLE, Int.reduceLT, Int.reduceMul, Int.reduceNeg, Int.reducePow, Int.reduceSub, Int.reduceToNat, Nat.reduceAdd, Nat.reduceEqDiff, Nat.reduceLT, Nat.reduceLeDiff, Nat.reduceMul, reduceCtorEq, Code.c57, e1, e2, e3]
    rw [if_neg e1, if_neg e2, if_pos e3] at hK; exact hK
  simp (disch := omega) only [wu64, wu32, wu8, fdiv_nn, EO, ↓EP, EQ, EM, ↓reduceIte, Int.reduceAdd, Int.reduceEq, Int.reduceLE, Int.reduceLT, Int.reduceMul, Int.reduceNeg, Int.reducePow, Int.reduceSub, Int.reduceToNat, Nat.reduceAdd, Nat.reduceEqDiff, Nat.reduceLT, Nat.reduceLeDiff, Nat.reduceMul, reduceCtorEq, Code.c57, e1, e2, e3]
  rw [if_neg e1, if_neg e2, if_neg e3] at hK; exact hK
theorem roid_k {alg : Int} {w : World} {K : Value → World → Prop} (hK : K (.string (S (oidU alg))) w) : callK Tryd.prog 36 [.int .i64 alg] w K := by
  refine call_of Tryd.func36 Code.h36 (by simp [Code.c36]) ?_
  unfold oidU at hK
  by_cases e1 : alg = 1
  · simp (disch := omega) only [wu64, wu32, wu8, fdiv_nn, EO, ↓EP, EQ, EM, ↓reduceIte, Int.reduceAdd, Int.reduceEq, Int.reduceLE, Int.reduceLT, Int.reduceMul, Int.reduceNeg, Int.reducePow, Int.reduceSub, Int.reduceToNat, Nat.reduceAdd, Nat.reduceEqDiff, Nat.reduceLT, Nat.reduceLeDiff, Nat.reduceMul, reduceCtorEq, Code.c36, e1]
    rw [if_pos e1] at hK; exact hK
  by_cases e2 : alg = 2
  · simp (disch := omega) only [wu64, wu32, wu8, fdiv_nn, EO, ↓EP, EQ, EM, ↓reduceIte, Int.reduceAdd, Int.reduceEq, Int.reduceLE, Int.reduceLT, Int.reduceMul, Int.reduceNeg, Int.reducePow, Int.reduceSub, Int.reduceToNat, Nat.reduceAdd, Nat.reduceEqDiff, Nat.reduceLT, Nat.reduceLeDiff, Nat.reduceMul, reduceCtorEq, Code.c36, e1, e2]
    rw [if_neg e1, if_pos e2] at hK; exact hK
  by_cases e3 : alg = 3
  · simp (disch := omega) only [wu64, wu32, wu8, fdiv_nn, EO, ↓EP, EQ, EM, ↓reduceIte, Int.reduceAdd, Int.reduceEq, Int.reduceLE, Int.reduceLT, Int.reduceMul, Int.reduceNeg, Int.reducePow, Int.reduceSub, Int.reduceToNat, Nat.reduceAdd, Nat.reduceEqDiff, Nat.reduceLT, Nat.reduceLeDiff, Nat.reduceMul, reduceCtorEq, Code.c36, e1, e2, e3]
    rw [if_neg e1, if_neg e2, if_pos e3] at hK; exact hK
  simp (disch := omega) only [wu64, wu32, wu8, fdiv_nn, EO, ↓EP, EQ, EM, ↓reduceIte, Int.reduceAdd, Int.reduceEq, Int.reduceLE, Int.reduceLT, Int.reduceMul, Int.reduceNeg, Int.reducePow, Int.reduceSub, Int.reduceToNat, Nat.reduceAdd, Nat.reduceEqDiff, Nat.reduceLT, Nat.reduceLeDiff, Nat.reduceMul, reduceCtorEq, Code.c36, e1, e2, e3]
  rw [if_neg e1, if_neg e2, if_neg e3] at hK; exact hK
end Go.Proofs.YtcgplgpdcfocpaaDoor.Der
end
section
set_option linter.unusedVariables false
set_option linter.unusedSimpArgs false
namespace Go.Proofs.YtcgplgpdcfocpaaDoor.Der
open Go Go.RowKit Go.Proofs Go.Proofs.YtcgplgpdcfocpaaDoor.Eng Go.Proofs.YtcgplgpdcfocpaaDoor.Code
set_option maxRecDepth 100000
attribute [local irreducible] callK S.W opsW scrW scrT
open Go.Proofs.YtcgplgpdcfocpaaDoor.Spec
attribute [local irreducible] putR putOidR
theorem len63 {p : List Int} (h : p.length ≤ 1000) : ∀ l ∈ [p], l.length ≤ 9223372036854775807 := fun l hl => by
  rw [List.mem_singleton] at hl; subst hl; omega
theorem len63b {p q : List Int} (h : p.length ≤ 1000) (h' : q.length ≤ 1000) : ∀ l ∈ [p, q], l.length ≤ 9223372036854775807 := fun l hl => by
  simp only [List.mem_cons, List.not_mem_nil, or_false] at hl
  rcases hl with rfl | rfl <;> omega
set_option maxHeartbeats 4000000 in
theorem info_k {alg : Int} {sum : List Int} {v : Value} {w : World} (hv : Vw .u8 w v sum) (hs : sum.length ≤ 64) {K : Value → World → Prop} (hK : ∀ v' w', Gw .u8 w w' v' (infoR alg sum) → K v' w') : callK Tryd.prog 32 [.int .i64 alg, v] w K := by
  refine call_of Tryd.func32 Code.h32 (by simp [Code.c32]) ?_
  have hv0 := hv
  obtain ⟨A, c, rfl, hc, hr⟩ := hv0
  have lo : (putOidR (ints (oidU alg))).1.length ≤ 30 := oid_len alg
  have l6 := putR_len 0 6 false [(putOidR (ints (oidU alg))).1]
  have l5 := putR_len 0 5 false []
  have la := putR_len 0 16 true [(putR 0 6 false [(putOidR (ints (oidU alg))).1]).1, (putR 0 5 false []).1]
  have l4 := putR_len 0 4 false [sum]
  simp only [List.map_cons, List.map_nil, List.sum_cons, List.sum_nil] at la l4 l5 l6
  have b2 : (2 : Int) ≤ 3 := by decide
  simp (disch := omega) only [wu64, wu32, wu8, fdiv_nn, EO, ↓EP, EQ, EM, ↓reduceIte, Int.reduceAdd, Int.reduceEq, Int.reduceLE, Int.reduceLT, Int.reduceMul, Int.reduceNeg, Int.reducePow, Int.reduceSub, Int.reduceToNat, Nat.reduceAdd, Nat.reduceEqDiff, Nat.reduceLT, Nat.reduceLeDiff, Nat.reduceMul, reduceCtorEq, Code.c32]
  refine oid_k ?_
  simp (disch := omega) only [wu64, wu32, wu8, fdiv_nn, EO, ↓EP, EQ, EM, ↓reduceIte, Int.reduceAdd, Int.reduceEq, Int.reduceLE, Int.reduceLT, Int.reduceMul, Int.reduceNeg, Int.reducePow, Int.reduceSub, Int.reduceToNat, Nat.reduceAdd, Nat.reduceEqDiff, Nat.reduceLT, Nat.reduceLeDiff, Nat.reduceMul, reduceCtorEq]
  refine putoid_vw (by have := oidU_len alg; omega) _ fun v1 w1 g1 => ?_
  obtain ⟨A1, c1, rfl, hc1, hr1, _⟩ := g1.sl.read
  simp (disch := omega) only [wu64, wu32, wu8, fdiv_nn, EO, ↓EP, EQ, EM, ↓reduceIte, Int.reduceAdd, Int.reduceEq, Int.reduceLE, Int.reduceLT, Int.reduceMul, Int.reduceNeg, Int.reducePow, Int.reduceSub, Int.reduceToNat, Nat.reduceAdd, Nat.reduceEqDiff, Nat.reduceLT, Nat.reduceLeDiff, Nat.reduceMul, reduceCtorEq, pr2]
  refine bslS1 fun w2 n2 => ?_
  simp (disch := omega) only [wu64, wu32, wu8, fdiv_nn, EO, ↓EP, EQ, EM, ↓reduceIte, Int.reduceAdd, Int.reduceEq, Int.reduceLE, Int.reduceLT, Int.reduceMul, Int.reduceNeg, Int.reducePow, Int.reduceSub, Int.reduceToNat, Nat.reduceAdd, Nat.reduceEqDiff, Nat.reduceLT, Nat.reduceLeDiff, Nat.reduceMul, reduceCtorEq]
  refine put_vw (LV.one n2 g1.vw) (by decide) (by decide) (by simp) (len63 (by omega)) _ fun v3 w3 g3 => ?_
  obtain ⟨A3, c3, rfl, hc3, hr3, _⟩ := g3.sl.read
  simp (disch := omega) only [wu64, wu32, wu8, fdiv_nn, EO, ↓EP, EQ, EM, ↓reduceIte, Int.reduceAdd, Int.reduceEq, Int.reduceLE, Int.reduceLT, Int.reduceMul, Int.reduceNeg, Int.reducePow, Int.reduceSub, Int.reduceToNat, Nat.reduceAdd, Nat.reduceEqDiff, Nat.reduceLT, Nat.reduceLeDiff, Nat.reduceMul, reduceCtorEq, pr2]
  refine put_vw (LV.emp w3) (by decide) (by decide) (by decide) (fun l hl => by simp at hl) _ fun v4 w4 g4 => ?_
  obtain ⟨A4, c4, rfl, hc4, hr4, _⟩ := g4.sl.read
  simp (disch := omega) only [wu64, wu32, wu8, fdiv_nn, EO, ↓EP, EQ, EM, ↓reduceIte, Int.reduceAdd, Int.reduceEq, Int.reduceLE, Int.reduceLT, Int.reduceMul, Int.reduceNeg, Int.reducePow, Int.reduceSub, Int.reduceToNat, Nat.reduceAdd, Nat.reduceEqDiff, Nat.reduceLT, Nat.reduceLeDiff, Nat.reduceMul, reduceCtorEq, pr2]
  refine bslS2 fun w5 n5 => ?_
  simp (disch := omega) only [wu64, wu32, wu8, fdiv_nn, EO, ↓EP, EQ, EM, ↓reduceIte, Int.reduceAdd, Int.reduceEq, Int.reduceLE, Int.reduceLT, Int.reduceMul, Int.reduceNeg, Int.reducePow, Int.reduceSub, Int.reduceToNat, Nat.reduceAdd, Nat.reduceEqDiff, Nat.reduceLT, Nat.reduceLeDiff, Nat.reduceMul, reduceCtorEq]
  refine put_vw (LV.two n5 (g3.vw.nb g4.fr) g4.vw) (by decide) (by decide) (by simp) (len63b (by omega) (by omega)) _ fun v6 w6 g6 => ?_
  obtain ⟨A6, c6, rfl, hc6, hr6, _⟩ := g6.sl.read
  have f2 := n2.fr nob
  have f5 := n5.fr nob
  have fa : Fr w w6 nob := ((((g1.fr.nb f2).nb g3.fr).nb g4.fr).nb f5).nb g6.fr
  have hv6 : Vw .u8 w6 (.slice A sum.length c) sum := hv.nb fa
  simp (disch := omega) only [wu64, wu32, wu8, fdiv_nn, EO, ↓EP, EQ, EM, ↓reduceIte, Int.reduceAdd, Int.reduceEq, Int.reduceLE, Int.reduceLT, Int.reduceMul, Int.reduceNeg, Int.reducePow, Int.reduceSub, Int.reduceToNat, Nat.reduceAdd, Nat.reduceEqDiff, Nat.reduceLT, Nat.reduceLeDiff, Nat.reduceMul, reduceCtorEq, pr2]
  refine bslS1 fun w7 n7 => ?_
  have f7 := n7.fr nob
  simp (disch := omega) only [wu64, wu32, wu8, fdiv_nn, EO, ↓EP, EQ, EM, ↓reduceIte, Int.reduceAdd, Int.reduceEq, Int.reduceLE, Int.reduceLT, Int.reduceMul, Int.reduceNeg, Int.reducePow, Int.reduceSub, Int.reduceToNat, Nat.reduceAdd, Nat.reduceEqDiff, Nat.reduceLT, Nat.reduceLeDiff, Nat.reduceMul, reduceCtorEq]
  refine put_vw (LV.one n7 hv6) (by decide) (by decide) (by simp) (len63 (by omega)) _ fun v8 w8 g8 => ?_
  obtain ⟨A8, c8, rfl, hc8, hr8, _⟩ := g8.sl.read
  simp (disch := omega) only [wu64, wu32, wu8, fdiv_nn, EO, ↓EP, EQ, EM, ↓reduceIte, Int.reduceAdd, Int.reduceEq, Int.reduceLE, Int.reduceLT, Int.reduceMul, Int.reduceNeg, Int.reducePow, Int.reduceSub, Int.reduceToNat, Nat.reduceAdd, Nat.reduceEqDiff, Nat.reduceLT, Nat.reduceLeDiff, Nat.reduceMul, reduceCtorEq, pr2]
  refine bslS2 fun w9 n9 => ?_
  have f9 := n9.fr nob
  simp (disch := omega) only [wu64, wu32, wu8, fdiv_nn, EO, ↓EP, EQ, EM, ↓reduceIte, Int.reduceAdd, Int.reduceEq, Int.reduceLE, Int.reduceLT, Int.reduceMul, Int.reduceNeg, Int.reducePow, Int.reduceSub, Int.reduceToNat, Nat.reduceAdd, Nat.reduceEqDiff, Nat.reduceLT, Nat.reduceLeDiff, Nat.reduceMul, reduceCtorEq]
  refine put_vw (LV.two n9 ((g6.vw.nb f7).nb g8.fr) g8.vw) (by decide) (by decide) (by simp) (len63b (by omega) (by omega)) _ fun v10 w10 g10 => ?_
  obtain ⟨A10, c10, rfl, hc10, hr10, _⟩ := g10.sl.read
  have fb : Fr w w9 nob := ((fa.nb f7).nb g8.fr).nb f9
  simp (disch := omega) only [wu64, wu32, wu8, fdiv_nn, EO, ↓EP, EQ, EM, ↓reduceIte, Int.reduceAdd, Int.reduceEq, Int.reduceLE, Int.reduceLT, Int.reduceMul, Int.reduceNeg, Int.reducePow, Int.reduceSub, Int.reduceToNat, Nat.reduceAdd, Nat.reduceEqDiff, Nat.reduceLT, Nat.reduceLeDiff, Nat.reduceMul, reduceCtorEq, pr2]
  refine hK _ w10 ⟨g10.sl, fun b e => ?_, fb.nb g10.fr⟩
  have := g10.up b e
  have := fb.size
  omega
end Go.Proofs.YtcgplgpdcfocpaaDoor.Der
end
section
set_option linter.unusedVariables false
set_option linter.unusedSimpArgs false
namespace Go.Proofs.YtcgplgpdcfocpaaDoor.Der
open Go Go.RowKit Go.Proofs Go.Proofs.YtcgplgpdcfocpaaDoor.Eng Go.Proofs.YtcgplgpdcfocpaaDoor.Code
set_option maxRecDepth 100000
attribute [local irreducible] callK S.W opsW scrW scrT
open Go.Proofs.YtcgplgpdcfocpaaDoor.Spec
attribute [local irreducible] putR putOidR infoR
theorem known_k {alg : Int} {sum : List Int} {A : Option Addr} {c : Nat} {w : World} (hs : sum.length ≤ 9223372036854775807) {K : Value → World → Prop} (hK : K (.bool (decide (0 < sizeI alg) && decide ((sum.length : Int) = sizeI alg))) w) : callK Tryd.prog 31 [.int .i64 alg, .slice A sum.length c] w K := by
  refine call_of Tryd.func31 Code.h31 (by simp [Code.c31]) ?_
  simp (disch := omega) only [wu64, wu32, wu8, fdiv_nn, EO, ↓EP, EQ, EM, ↓reduceIte, Int.reduceAdd, Int.reduceEq, Int.reduceLE, Int.reduceLT, Int.reduceMul, Int.reduceNeg, Int.reducePow, Int.reduceSub, Int.reduceToNat, Nat.reduceAdd, Nat.reduceEqDiff, Nat.reduceLT, Nat.reduceLeDiff, Nat.reduceMul, reduceCtorEq, Code.c31]
  refine size_spec alg _ _ ?_
  by_cases c0 : 0 < sizeI alg
  · simp (disch := omega) only [wu64, wu32, wu8, fdiv_nn, EO, ↓EP, EQ, EM, ↓reduceIte, Int.reduceAdd, Int.reduceEq, Int.reduceLE, Int.reduceLT, Int.reduceMul, Int.reduceNeg, Int.reducePow, Int.reduceSub, Int.reduceToNat, Nat.reduceAdd, Nat.reduceEqDiff, Nat.reduceLT, Nat.reduceLeDiff, Nat.reduceMul, reduceCtorEq, c0]
    refine size_spec alg _ _ ?_
    by_cases c1 : (sum.length : Int) = sizeI alg
    · rw [decide_eq_true c0, decide_eq_true c1] at hK
      simp (disch := omega) only [wu64, wu32, wu8, fdiv_nn, EO, ↓EP, EQ, EM, ↓reduceIte, Int.reduceAdd, Int.reduceEq, Int.reduceLE, Int.reduceLT, Int.reduceMul, Int.reduceNeg, Int.reducePow, Int.reduceSub, Int.reduceToNat, Nat.reduceAdd, Nat.reduceEqDiff, Nat.reduceLT, Nat.reduceLeDiff, Nat.reduceMul, reduceCtorEq, c0, c1]
      exact hK
    · rw [decide_eq_true c0, decide_eq_false c1] at hK
      simp (disch := omega) only [wu64, wu32, wu8, fdiv_nn, EO, ↓EP, EQ, EM, ↓reduceIte, Int.reduceAdd, Int.reduceEq, Int.reduceLE, Int.reduceLT, Int.reduceMul, Int.reduceNeg, Int.reducePow, Int.reduceSub, Int.reduceToNat, Nat.reduceAdd, Nat.reduceEqDiff, Nat.reduceLT, Nat.reduceLeDiff, Nat.reduceMul, reduceCtorEq, c0, c1]
      exact hK
  · rw [decide_eq_false c0, Bool.false_and] at hK
    simp (disch := omega) only [wu64, wu32, wu8, fdiv_nn, EO, ↓EP, EQ, EM, ↓reduceIte, Int.reduceAdd, Int.reduceEq, Int.reduceLE, Int.reduceLT, Int.reduceMul, Int.reduceNeg, Int.reducePow, Int.reduceSub, Int.reduceToNat, Nat.reduceAdd, Nat.reduceEqDiff, Nat.reduceLT, Nat.reduceLeDiff, Nat.reduceMul, reduceCtorEq, c0]
    exact hK
theorem sizeI_nn (alg : Int) : 0 ≤ sizeI alg ∧ sizeI alg ≤ 64 := by
  unfold sizeI
  repeat' split
  all_goals omega
set_option maxHeartbeats 4000000 in
theorem pad_k {alg n : Int} {sum : List Int} {v : Value} {w : World} (hn : -9223372036854775808 ≤ n ∧ n ≤ 9223372036854775807) (hv : Vw .u8 w v sum) (hs : sum.length ≤ 9223372036854775807) {K : Value → World → Prop}
    (hK : ∀ v' w', Gw .u8 w w' v' (padR alg sum n).1 → K (pr2 v' (padR alg sum n).2) w') : callK Tryd.prog 18 [.int .i64 alg, v, .int .i64 n] w K := by
  refine call_of Tryd.func18 Code.h18 (by simp [Code.c18]) ?_
  have hv0 := hv
  obtain ⟨A, c, rfl, hc, hr⟩ := hv0
  have hz := sizeI_nn alg
  have bad1 : (sizeI alg = 0 ∨ (sum.length : Int) ≠ sizeI alg ∨ 2048 < n) → K (pr2 (.slice none 0 0) 1) w := fun h => by
    have e : padR alg sum n = ([], 1) := if_pos h
    rw [e] at hK
    exact hK _ _ (Gw.nil _ _)
  simp (disch := omega) only [wu64, wu32, wu8, fdiv_nn, EO, ↓EP, EQ, EM, ↓reduceIte, Int.reduceAdd, Int.reduceEq, Int.reduceLE, Int.reduceLT, Int.reduceMul, Int.reduceNeg, Int.reducePow, Int.reduceSub, Int.reduceToNat, Nat.reduceAdd, Nat.reduceEqDiff, Nat.reduceLT, Nat.reduceLeDiff, Nat.reduceMul, reduceCtorEq, Code.c18]
  refine known_k hs ?_
  by_cases c0 : 0 < sizeI alg ∧ (sum.length : Int) = sizeI alg
  rotate_left
  · have : (decide (0 < sizeI alg) && decide ((sum.length : Int) = sizeI alg)) = false := by
      by_cases h : 0 < sizeI alg
      · have : ¬ (sum.length : Int) = sizeI alg := fun e => c0 ⟨h, e⟩
        simp [this]
      · simp [h]
    rw [this]
    simp (disch := omega) only [wu64, wu32, wu8, fdiv_nn, EO, ↓EP, EQ, EM, ↓reduceIte, Int.reduceAdd, Int.reduceEq, Int.reduceLE, Int.reduceLT, Int.reduceMul, Int.reduceNeg, Int.reducePow, Int.reduceSub, Int.reduceToNat, Nat.reduceAdd, Nat.reduceEqDiff, Nat.reduceLT, Nat.reduceLeDiff, Nat.reduceMul, reduceCtorEq, Bool.not_false]
    exact bad1 (by omega)
  obtain ⟨c1, c2⟩ := c0
  rw [decide_eq_true c1, decide_eq_true c2, Bool.true_and]
  by_cases c3 : 2048 < n
  · simp (disch := omega) only [wu64, wu32, wu8, fdiv_nn, EO, ↓EP, EQ, EM, ↓reduceIte, Int.reduceAdd, Int.reduceEq, Int.reduceLE, Int.reduceLT, Int.reduceMul, Int.reduceNeg, Int.reducePow, Int.reduceSub, Int.reduceToNat, Nat.reduceAdd, Nat.reduceEqDiff, Nat.reduceLT, Nat.reduceLeDiff, Nat.reduceMul, reduceCtorEq, Bool.not_true, c3]
    exact bad1 (.inr (.inr c3))
  have hR : padR alg sum n = if n < (infoR alg sum).length + 11 then ([], 2) else ([0, 1] ++ List.replicate (n.toNat - (infoR alg sum).length - 3) 255 ++ [0] ++ infoR alg sum, 0) := if_neg (by omega)
  have hil := info_len (alg := alg) (sum := sum) (by omega)
  simp (disch := omega) only [wu64, wu32, wu8, fdiv_nn, EO, ↓EP, EQ, EM, ↓reduceIte, Int.reduceAdd, Int.reduceEq, Int.reduceLE, Int.reduceLT, Int.reduceMul, Int.reduceNeg, Int.reducePow, Int.reduceSub, Int.reduceToNat, Nat.reduceAdd, Nat.reduceEqDiff, Nat.reduceLT, Nat.reduceLeDiff, Nat.reduceMul, reduceCtorEq, Bool.not_true, c3]
  refine info_k hv (by omega) fun v1 w1 g1 => ?_
  obtain ⟨A1, d1, rfl, hd1, hr1, _⟩ := g1.sl.read
  by_cases c4 : n < (infoR alg sum).length + 11
  · rw [if_pos c4] at hR
    rw [hR] at hK
    simp (disch := omega) only [wu64, wu32, wu8, fdiv_nn, EO, ↓EP, EQ, EM, ↓reduceIte, Int.reduceAdd, Int.reduceEq, Int.reduceLE, Int.reduceLT, Int.reduceMul, Int.reduceNeg, Int.reducePow, Int.reduceSub, Int.reduceToNat, Nat.reduceAdd, Nat.reduceEqDiff, Nat.reduceLT, Nat.reduceLeDiff, Nat.reduceMul, reduceCtorEq, c4]
    exact hK _ _ ⟨Sl.nil _ _, (fun b e => by cases e), g1.fr⟩
  rw [if_neg c4] at hR
  rw [hR] at hK
  obtain ⟨q, hq⟩ : ∃ q : Nat, n = (infoR alg sum).length + 3 + q := ⟨(n - (infoR alg sum).length - 3).toNat, by omega⟩
  have hq1 : n.toNat - (infoR alg sum).length - 3 = q := by omega
  rw [hq1] at hK
  simp (disch := omega) only [wu64, wu32, wu8, fdiv_nn, EO, ↓EP, EQ, EM, ↓reduceIte, Int.reduceAdd, Int.reduceEq, Int.reduceLE, Int.reduceLT, Int.reduceMul, Int.reduceNeg, Int.reducePow, Int.reduceSub, Int.reduceToNat, Nat.reduceAdd, Nat.reduceEqDiff, Nat.reduceLT, Nat.reduceLeDiff, Nat.reduceMul, reduceCtorEq, c4]
  refine bsl2 fun w2 n2 => ?_
  have G2 : Gw .u8 w1 w2 (.slice (some ⟨w1.heap.size, 0, none⟩) 2 2) [0, 1] := ⟨n2.sl, fun b e => by cases e; exact Nat.le_refl _, n2.fr nob⟩
  simp (disch := omega) only [wu64, wu32, wu8, fdiv_nn, EO, ↓EP, EQ, EM, ↓reduceIte, Int.reduceAdd, Int.reduceEq, Int.reduceLE, Int.reduceLT, Int.reduceMul, Int.reduceNeg, Int.reducePow, Int.reduceSub, Int.reduceToNat, Nat.reduceAdd, Nat.reduceEqDiff, Nat.reduceLT, Nat.reduceLeDiff, Nat.reduceMul, reduceCtorEq]
  refine bsl1 fun w3 n3 => ?_
  have f3 := n3.fr nob
  have e1 : n - ((infoR alg sum).length : Int) - 3 = (q : Int) := by omega
  simp (disch := omega) only [wu64, wu32, wu8, fdiv_nn, EO, ↓EP, EQ, EM, ↓reduceIte, Int.reduceAdd, Int.reduceEq, Int.reduceLE, Int.reduceLT, Int.reduceMul, Int.reduceNeg, Int.reducePow, Int.reduceSub, Int.reduceToNat, Nat.reduceAdd, Nat.reduceEqDiff, Nat.reduceLT, Nat.reduceLeDiff, Nat.reduceMul, reduceCtorEq, e1]
  refine repeat_k n3.rdl (by omega) (by omega) fun A4 d4 w4 hd4 hr4 f4 => ?_
  simp (disch := omega) only [wu64, wu32, wu8, fdiv_nn, EO, ↓EP, EQ, EM, ↓reduceIte, Int.reduceAdd, Int.reduceEq, Int.reduceLE, Int.reduceLT, Int.reduceMul, Int.reduceNeg, Int.reducePow, Int.reduceSub, Int.reduceToNat, Nat.reduceAdd, Nat.reduceEqDiff, Nat.reduceLT, Nat.reduceLeDiff, Nat.reduceMul, reduceCtorEq]
  refine app_num ((G2.step f3).step f4).sl (by simp) hr4 (by simp; omega) (by decide) fun v5 w5 a5 => ?_
  have G5 := ((G2.step f3).step f4).apd a5
  obtain ⟨A5, d5, rfl, _, _, _⟩ := G5.sl.read
  simp (disch := omega) only [wu64, wu32, wu8, fdiv_nn, EO, ↓EP, EQ, EM, ↓reduceIte, Int.reduceAdd, Int.reduceEq, Int.reduceLE, Int.reduceLT, Int.reduceMul, Int.reduceNeg, Int.reducePow, Int.reduceSub, Int.reduceToNat, Nat.reduceAdd, Nat.reduceEqDiff, Nat.reduceLT, Nat.reduceLeDiff, Nat.reduceMul, reduceCtorEq]
  refine bsl1 fun w6 n6 => ?_
  have f6 := n6.fr nob
  simp (disch := omega) only [wu64, wu32, wu8, fdiv_nn, EO, ↓EP, EQ, EM, ↓reduceIte, Int.reduceAdd, Int.reduceEq, Int.reduceLE, Int.reduceLT, Int.reduceMul, Int.reduceNeg, Int.reducePow, Int.reduceSub, Int.reduceToNat, Nat.reduceAdd, Nat.reduceEqDiff, Nat.reduceLT, Nat.reduceLeDiff, Nat.reduceMul, reduceCtorEq]
  refine app_num (G5.step f6).sl rfl n6.rdl (by simp; omega) (by decide) fun v7 w7 a7 => ?_
  have G7 := (G5.step f6).apd a7
  obtain ⟨A7, d7, rfl, _, _, _⟩ := G7.sl.read
  have hr8 : Rd w7 A1 (nums .u8 (infoR alg sum)) := hr1.nb G7.fr
  simp (disch := omega) only [wu64, wu32, wu8, fdiv_nn, EO, ↓EP, EQ, EM, ↓reduceIte, Int.reduceAdd, Int.reduceEq, Int.reduceLE, Int.reduceLT, Int.reduceMul, Int.reduceNeg, Int.reducePow, Int.reduceSub, Int.reduceToNat, Nat.reduceAdd, Nat.reduceEqDiff, Nat.reduceLT, Nat.reduceLeDiff, Nat.reduceMul, reduceCtorEq]
  refine app_num G7.sl rfl hr8 (by simp; omega) (by decide) fun v8 w8 a8 => ?_
  have G8 := G7.apd a8
  simp (disch := omega) only [wu64, wu32, wu8, fdiv_nn, EO, ↓EP, EQ, EM, ↓reduceIte, Int.reduceAdd, Int.reduceEq, Int.reduceLE, Int.reduceLT, Int.reduceMul, Int.reduceNeg, Int.reducePow, Int.reduceSub, Int.reduceToNat, Nat.reduceAdd, Nat.reduceEqDiff, Nat.reduceLT, Nat.reduceLeDiff, Nat.reduceMul, reduceCtorEq]
  refine hK _ w8 ⟨G8.sl, fun b e => ?_, g1.fr.nb G8.fr⟩
  have := G8.up b e
  have := g1.fr.size
  omega
end Go.Proofs.YtcgplgpdcfocpaaDoor.Der
end
section
set_option linter.unusedVariables false
set_option linter.unusedSimpArgs false
namespace Go.Proofs.YtcgplgpdcfocpaaDoor.Der
open Go Go.RowKit Go.Proofs Go.Proofs.YtcgplgpdcfocpaaDoor.Eng Go.Proofs.YtcgplgpdcfocpaaDoor.Code
set_option maxRecDepth 100000
attribute [local irreducible] callK S.W opsW scrW scrT
open Go.Proofs.YtcgplgpdcfocpaaDoor.Spec
attribute [local irreducible] putR putOidR infoR
theorem rseq_k {tag : Int} {X : Value} {ls : List (List Int)} {w : World} (hX : LV w X ls) (ht : -9223372036854775808 ≤ tag ∧ tag ≤ 9223372036854775807) (h63 : ls.length ≤ 9223372036854775807) (hl : ∀ l ∈ ls, l.length ≤ 9223372036854775807) {K : Value → World → Prop}
    (hK : ∀ v' w', Gw .u8 w w' v' (putR 0 tag true ls).1 → K v' w') : callK Tryd.prog 34 [.int .i64 tag, X] w K := by
  refine call_of Tryd.func34 Code.h34 (by simp [Code.c34]) ?_
  have hX0 := hX
  obtain ⟨A, c, vs, rfl, _⟩ := hX0.ex
  simp (disch := omega) only [wu64, wu32, wu8, fdiv_nn, EO, ↓EP, EQ, EM, ↓reduceIte, Int.reduceAdd, Int.reduceEq, Int.reduceLE, Int.reduceLT, Int.reduceMul, Int.reduceNeg, Int.reducePow, Int.reduceSub, Int.reduceToNat, Nat.reduceAdd, Nat.reduceEqDiff, Nat.reduceLT, Nat.reduceLeDiff, Nat.reduceMul, reduceCtorEq, Code.c34]
  refine rput_vw hX (by decide) ht h63 hl _ fun v1 w1 g1 => ?_
  obtain ⟨A1, c1, rfl, hc1, hr1, _⟩ := g1.sl.read
  simp (disch := omega) only [wu64, wu32, wu8, fdiv_nn, EO, ↓EP, EQ, EM, ↓reduceIte, Int.reduceAdd, Int.reduceEq, Int.reduceLE, Int.reduceLT, Int.reduceMul, Int.reduceNeg, Int.reducePow, Int.reduceSub, Int.reduceToNat, Nat.reduceAdd, Nat.reduceEqDiff, Nat.reduceLT, Nat.reduceLeDiff, Nat.reduceMul, reduceCtorEq, pr2]
  exact hK _ _ g1
theorem rprim_k {tag : Int} {v : Value} {p : List Int} {w : World} (hv : Vw .u8 w v p) (hp : p.length ≤ 1000) (ht : -9223372036854775808 ≤ tag ∧ tag ≤ 9223372036854775807) {K : Value → World → Prop}
    (hK : ∀ v' w', Gw .u8 w w' v' (putR 0 tag false [p]).1 → K v' w') : callK Tryd.prog 37 [.int .i64 tag, v] w K := by
  refine call_of Tryd.func37 Code.h37 (by simp [Code.c37]) ?_
  have hv0 := hv
  obtain ⟨A, c, rfl, hc, hr⟩ := hv0
  simp (disch := omega) only [wu64, wu32, wu8, fdiv_nn, EO, ↓EP, EQ, EM, ↓reduceIte, Int.reduceAdd, Int.reduceEq, Int.reduceLE, Int.reduceLT, Int.reduceMul, Int.reduceNeg, Int.reducePow, Int.reduceSub, Int.reduceToNat, Nat.reduceAdd, Nat.reduceEqDiff, Nat.reduceLT, Nat.reduceLeDiff, Nat.reduceMul, reduceCtorEq, Code.c37]
  refine bslS1 fun w2 n2 => ?_
  have f2 := n2.fr nob
  simp (disch := omega) only [wu64, wu32, wu8, fdiv_nn, EO, ↓EP, EQ, EM, ↓reduceIte, Int.reduceAdd, Int.reduceEq, Int.reduceLE, Int.reduceLT, Int.reduceMul, Int.reduceNeg, Int.reducePow, Int.reduceSub, Int.reduceToNat, Nat.reduceAdd, Nat.reduceEqDiff, Nat.reduceLT, Nat.reduceLeDiff, Nat.reduceMul, reduceCtorEq]
  refine rput_vw (LV.one n2 hv) (by decide) ht (by simp) (len63 hp) _ fun v1 w1 g1 => ?_
  obtain ⟨A1, c1, rfl, hc1, hr1, _⟩ := g1.sl.read
  simp (disch := omega) only [wu64, wu32, wu8, fdiv_nn, EO, ↓EP, EQ, EM, ↓reduceIte, Int.reduceAdd, Int.reduceEq, Int.reduceLE, Int.reduceLT, Int.reduceMul, Int.reduceNeg, Int.reducePow, Int.reduceSub, Int.reduceToNat, Nat.reduceAdd, Nat.reduceEqDiff, Nat.reduceLT, Nat.reduceLeDiff, Nat.reduceMul, reduceCtorEq, pr2]
  refine hK _ _ ⟨g1.sl, fun b e => ?_, f2.nb g1.fr⟩
  have := g1.up b e
  have := f2.size
  omega
theorem roidof_k {alg : Int} {w : World} {K : Value → World → Prop} (hK : ∀ v' w', Gw .u8 w w' v' (putR 0 6 false [oidP alg]).1 → K v' w') : callK Tryd.prog 35 [.string (S (oidU alg))] w K := by
  refine call_of Tryd.func35 Code.h35 (by simp [Code.c35]) ?_
  have lo : (putOidR (ints (oidU alg))).1.length ≤ 30 := oid_len alg
  simp (disch := omega) only [wu64, wu32, wu8, fdiv_nn, EO, ↓EP, EQ, EM, ↓reduceIte, Int.reduceAdd, Int.reduceEq, Int.reduceLE, Int.reduceLT, Int.reduceMul, Int.reduceNeg, Int.reducePow, Int.reduceSub, Int.reduceToNat, Nat.reduceAdd, Nat.reduceEqDiff, Nat.reduceLT, Nat.reduceLeDiff, Nat.reduceMul, reduceCtorEq, Code.c35]
  refine rputoid_vw (by have := oidU_len alg; omega) _ fun v1 w1 g1 => ?_
  obtain ⟨A1, c1, rfl, hc1, hr1, _⟩ := g1.sl.read
  simp (disch := omega) only [wu64, wu32, wu8, fdiv_nn, EO, ↓EP, EQ, EM, ↓reduceIte, Int.reduceAdd, Int.reduceEq, Int.reduceLE, Int.reduceLT, Int.reduceMul, Int.reduceNeg, Int.reducePow, Int.reduceSub, Int.reduceToNat, Nat.reduceAdd, Nat.reduceEqDiff, Nat.reduceLT, Nat.reduceLeDiff, Nat.reduceMul, reduceCtorEq, pr2]
  refine rprim_k g1.vw (by omega) (by decide) fun v2 w2 g2 => ?_
  simp (disch := omega) only [wu64, wu32, wu8, fdiv_nn, EO, ↓EP, EQ, EM, ↓reduceIte, Int.reduceAdd, Int.reduceEq, Int.reduceLE, Int.reduceLT, Int.reduceMul, Int.reduceNeg, Int.reducePow, Int.reduceSub, Int.reduceToNat, Nat.reduceAdd, Nat.reduceEqDiff, Nat.reduceLT, Nat.reduceLeDiff, Nat.reduceMul, reduceCtorEq]
  refine hK _ _ ⟨g2.sl, fun b e => ?_, g1.fr.nb g2.fr⟩
  have := g2.up b e
  have := g1.fr.size
  omega
set_option maxHeartbeats 4000000 in
theorem rpad_k {alg n : Int} {sum : List Int} {v : Value} {w : World} (hn : -9223372036854775808 ≤ n ∧ n ≤ 9223372036854775807) (hv : Vw .u8 w v sum) (hs : sum.length ≤ 9223372036854775807) {K : Value → World → Prop}
    (hK : ∀ v' w', Gw .u8 w w' v' (padR alg sum n).1 → K (pr2 v' (padR alg sum n).2) w') : callK Tryd.prog 19 [.int .i64 alg, v, .int .i64 n] w K := by
  refine call_of Tryd.func19 Code.h19 (by simp [Code.c19]) ?_
  have hv0 := hv
  obtain ⟨A, c, rfl, hc, hr⟩ := hv0
  have hz := sizeI_nn alg
  have bad1 : (sizeI alg = 0 ∨ (sum.length : Int) ≠ sizeI alg ∨ 2048 < n) → K (pr2 (.slice none 0 0) 1) w := fun h => by
    have e : padR alg sum n = ([], 1) := if_pos h
    rw [e] at hK
    exact hK _ _ (Gw.nil _ _)
  simp (disch := omega) only [wu64, wu32, wu8, fdiv_nn, EO, ↓EP, EQ, EM, ↓reduceIte, Int.reduceAdd, Int.reduceEq, Int.reduceLE, Int.reduceLT, Int.reduceMul, Int.reduceNeg, Int.reducePow, Int.reduceSub, Int.reduceToNat, Nat.reduceAdd, Nat.reduceEqDiff, Nat.reduceLT, Nat.reduceLeDiff, Nat.reduceMul, reduceCtorEq, Code.c19]
  refine rsize_k alg _ _ ?_
  by_cases c0 : sizeI alg = 0
  · simp (disch := omega) only [wu64, wu32, wu8, fdiv_nn, EO, ↓EP, EQ, EM, ↓reduceIte, Int.reduceAdd, Int.reduceEq, Int.reduceLE, Int.reduceLT, Int.reduceMul, Int.reduceNeg, Int.reducePow, Int.reduceSub, Int.reduceToNat, Nat.reduceAdd, Nat.reduceEqDiff, Nat.reduceLT, Nat.reduceLeDiff, Nat.reduceMul, reduceCtorEq, c0]
    exact bad1 (.inl c0)
  simp (disch := omega) only [wu64, wu32, wu8, fdiv_nn, EO, ↓EP, EQ, EM, ↓reduceIte, Int.reduceAdd, Int.reduceEq, Int.reduceLE, Int.reduceLT, Int.reduceMul, Int.reduceNeg, Int.reducePow, Int.reduceSub, Int.reduceToNat, Nat.reduceAdd, Nat.reduceEqDiff, Nat.reduceLT, Nat.reduceLeDiff, Nat.reduceMul, reduceCtorEq, c0]
  refine rsize_k alg _ _ ?_
  by_cases c1 : (sum.length : Int) = sizeI alg
  rotate_left
  · simp (disch := omega) only [wu64, wu32, wu8, fdiv_nn, EO, ↓EP, EQ, EM, ↓reduceIte, Int.reduceAdd, Int.reduceEq, Int.reduceLE, Int.reduceLT, Int.reduceMul, Int.reduceNeg, Int.reducePow, Int.reduceSub, Int.reduceToNat, Nat.reduceAdd, Nat.reduceEqDiff, Nat.reduceLT, Nat.reduceLeDiff, Nat.reduceMul, reduceCtorEq, c0, c1]
    exact bad1 (.inr (.inl c1))
  by_cases c3 : 2048 < n
  · simp (disch := omega) only [wu64, wu32, wu8, fdiv_nn, EO, ↓EP, EQ, EM, ↓reduceIte, Int.reduceAdd, Int.reduceEq, Int.reduceLE, Int.reduceLT, Int.reduceMul, Int.reduceNeg, Int.reducePow, Int.reduceSub, Int.reduceToNat, Nat.reduceAdd, Nat.reduceEqDiff, Nat.reduceLT, Nat.reduceLeDiff, Nat.reduceMul, reduceCtorEq, c0, c1, c3]
    exact bad1 (.inr (.inr c3))
  have hR : padR alg sum n = if n < (infoR alg sum).length + 11 then ([], 2) else ([0, 1] ++ List.replicate (n.toNat - (infoR alg sum).length - 3) 255 ++ [0] ++ infoR alg sum, 0) := if_neg (by omega)
  have hil := info_len (alg := alg) (sum := sum) (by omega)
  simp (disch := omega) only [wu64, wu32, wu8, fdiv_nn, EO, ↓EP, EQ, EM, ↓reduceIte, Int.reduceAdd, Int.reduceEq, Int.reduceLE, Int.reduceLT, Int.reduceMul, Int.reduceNeg, Int.reducePow, Int.reduceSub, Int.reduceToNat, Nat.reduceAdd, Nat.reduceEqDiff, Nat.reduceLT, Nat.reduceLeDiff, Nat.reduceMul, reduceCtorEq, c0, c1, c3]
  refine roid_k ?_
  simp (disch := omega) only [wu64, wu32, wu8, fdiv_nn, EO, ↓EP, EQ, EM, ↓reduceIte, Int.reduceAdd, Int.reduceEq, Int.reduceLE, Int.reduceLT, Int.reduceMul, Int.reduceNeg, Int.reducePow, Int.reduceSub, Int.reduceToNat, Nat.reduceAdd, Nat.reduceEqDiff, Nat.reduceLT, Nat.reduceLeDiff, Nat.reduceMul, reduceCtorEq]
  refine roidof_k fun v1 w1 g1 => ?_
  have lo := oid_len alg
  have l6 := putR_len 0 6 false [oidP alg]
  have e5 : putR 0 5 false [[]] = putR 0 5 false [] := by
    unfold putR
    simp
  have l5 := putR_len 0 5 false []
  have la := putR_len 0 16 true [(putR 0 6 false [oidP alg]).1, (putR 0 5 false []).1]
  have l4 := putR_len 0 4 false [sum]
  simp only [List.map_cons, List.map_nil, List.sum_cons, List.sum_nil] at la l4 l5 l6
  have hI : infoR alg sum = (putR 0 16 true [(putR 0 16 true [(putR 0 6 false [oidP alg]).1, (putR 0 5 false []).1]).1, (putR 0 4 false [sum]).1]).1 := by unfold infoR; rfl
  obtain ⟨A1, c1', rfl, hc1, hr1, _⟩ := g1.sl.read
  simp (disch := omega) only [wu64, wu32, wu8, fdiv_nn, EO, ↓EP, EQ, EM, ↓reduceIte, Int.reduceAdd, Int.reduceEq, Int.reduceLE, Int.reduceLT, Int.reduceMul, Int.reduceNeg, Int.reducePow, Int.reduceSub, Int.reduceToNat, Nat.reduceAdd, Nat.reduceEqDiff, Nat.reduceLT, Nat.reduceLeDiff, Nat.reduceMul, reduceCtorEq]
  refine rprim_k (Vw.nil .u8 w1) (by simp) (by decide) fun v2 w2 g2 => ?_
  rw [e5] at g2
  obtain ⟨A2, c2, rfl, hc2, hr2, _⟩ := g2.sl.read
  simp (disch := omega) only [wu64, wu32, wu8, fdiv_nn, EO, ↓EP, EQ, EM, ↓reduceIte, Int.reduceAdd, Int.reduceEq, Int.reduceLE, Int.reduceLT, Int.reduceMul, Int.reduceNeg, Int.reducePow, Int.reduceSub, Int.reduceToNat, Nat.reduceAdd, Nat.reduceEqDiff, Nat.reduceLT, Nat.reduceLeDiff, Nat.reduceMul, reduceCtorEq]
  refine bslS2 fun w3 n3 => ?_
  have f3 := n3.fr nob
  simp (disch := omega) only [wu64, wu32, wu8, fdiv_nn, EO, ↓EP, EQ, EM, ↓reduceIte, Int.reduceAdd, Int.reduceEq, Int.reduceLE, Int.reduceLT, Int.reduceMul, Int.reduceNeg, Int.reducePow, Int.reduceSub, Int.reduceToNat, Nat.reduceAdd, Nat.reduceEqDiff, Nat.reduceLT, Nat.reduceLeDiff, Nat.reduceMul, reduceCtorEq]
  refine rseq_k (LV.two n3 (g1.vw.nb g2.fr) g2.vw) (by decide) (by simp) (len63b (by omega) (by omega)) fun v4 w4 g4 => ?_
  obtain ⟨A4, c4, rfl, hc4, hr4, _⟩ := g4.sl.read
  have f4 : Fr w w4 nob := ((g1.fr.nb g2.fr).nb f3).nb g4.fr
  have hv4 : Vw .u8 w4 (.slice A sum.length c) sum := hv.nb f4
  simp (disch := omega) only [wu64, wu32, wu8, fdiv_nn, EO, ↓EP, EQ, EM, ↓reduceIte, Int.reduceAdd, Int.reduceEq, Int.reduceLE, Int.reduceLT, Int.reduceMul, Int.reduceNeg, Int.reducePow, Int.reduceSub, Int.reduceToNat, Nat.reduceAdd, Nat.reduceEqDiff, Nat.reduceLT, Nat.reduceLeDiff, Nat.reduceMul, reduceCtorEq]
  refine rprim_k hv4 (by omega) (by decide) fun v5 w5 g5 => ?_
  obtain ⟨A5, c5, rfl, hc5, hr5, _⟩ := g5.sl.read
  simp (disch := omega) only [wu64, wu32, wu8, fdiv_nn, EO, ↓EP, EQ, EM, ↓reduceIte, Int.reduceAdd, Int.reduceEq, Int.reduceLE, Int.reduceLT, Int.reduceMul, Int.reduceNeg, Int.reducePow, Int.reduceSub, Int.reduceToNat, Nat.reduceAdd, Nat.reduceEqDiff, Nat.reduceLT, Nat.reduceLeDiff, Nat.reduceMul, reduceCtorEq]
  refine bslS2 fun w6 n6 => ?_
  have f6 := n6.fr nob
  simp (disch := omega) only [wu64, wu32, wu8, fdiv_nn, EO, ↓EP, EQ, EM, ↓reduceIte, Int.reduceAdd, Int.reduceEq, Int.reduceLE, Int.reduceLT, Int.reduceMul, Int.reduceNeg, Int.reducePow, Int.reduceSub, Int.reduceToNat, Nat.reduceAdd, Nat.reduceEqDiff, Nat.reduceLT, Nat.reduceLeDiff, Nat.reduceMul, reduceCtorEq]
  refine rseq_k (LV.two n6 (g4.vw.nb g5.fr) g5.vw) (by decide) (by simp) (len63b (by omega) (by omega)) fun v7 w7 g7 => ?_
  rw [← hI] at g7
  have f7 : Fr w w7 nob := ((f4.nb g5.fr).nb f6).nb g7.fr
  obtain ⟨A7, c7, rfl, hc7, hr7, _⟩ := g7.sl.read
  by_cases c8 : n < 11
  · rw [if_pos (by omega)] at hR
    rw [hR] at hK
    simp (disch := omega) only [wu64, wu32, wu8, fdiv_nn, EO, ↓EP, EQ, EM, ↓reduceIte, Int.reduceAdd, Int.reduceEq, Int.reduceLE, Int.reduceLT, Int.reduceMul, Int.reduceNeg, Int.reducePow, Int.reduceSub, Int.reduceToNat, Nat.reduceAdd, Nat.reduceEqDiff, Nat.reduceLT, Nat.reduceLeDiff, Nat.reduceMul, reduceCtorEq, c8]
    exact hK _ _ ⟨Sl.nil _ _, (fun b e => by cases e), f7⟩
  by_cases c9 : n - 11 < (infoR alg sum).length
  · rw [if_pos (by omega)] at hR
    rw [hR] at hK
    simp (disch := omega) only [wu64, wu32, wu8, fdiv_nn, EO, ↓EP, EQ, EM, ↓reduceIte, Int.reduceAdd, Int.reduceEq, Int.reduceLE, Int.reduceLT, Int.reduceMul, Int.reduceNeg, Int.reducePow, Int.reduceSub, Int.reduceToNat, Nat.reduceAdd, Nat.reduceEqDiff, Nat.reduceLT, Nat.reduceLeDiff, Nat.reduceMul, reduceCtorEq, c8, c9]
    exact hK _ _ ⟨Sl.nil _ _, (fun b e => by cases e), f7⟩
  rw [if_neg (by omega)] at hR
  rw [hR] at hK
  obtain ⟨q, hq⟩ : ∃ q : Nat, n = (infoR alg sum).length + 3 + q := ⟨(n - (infoR alg sum).length - 3).toNat, by omega⟩
  have hq1 : n.toNat - (infoR alg sum).length - 3 = q := by omega
  rw [hq1] at hK
  simp (disch := omega) only [wu64, wu32, wu8, fdiv_nn, EO, ↓EP, EQ, EM, ↓reduceIte, Int.reduceAdd, Int.reduceEq, Int.reduceLE, Int.reduceLT, Int.reduceMul, Int.reduceNeg, Int.reducePow, Int.reduceSub, Int.reduceToNat, Nat.reduceAdd, Nat.reduceEqDiff, Nat.reduceLT, Nat.reduceLeDiff, Nat.reduceMul, reduceCtorEq, c8, c9]
  refine bsl2 fun w8 n8 => ?_
  have G8 : Gw .u8 w7 w8 (.slice (some ⟨w7.heap.size, 0, none⟩) 2 2) [0, 1] := ⟨n8.sl, fun b e => by cases e; exact Nat.le_refl _, n8.fr nob⟩
  simp (disch := omega) only [wu64, wu32, wu8, fdiv_nn, EO, ↓EP, EQ, EM, ↓reduceIte, Int.reduceAdd, Int.reduceEq, Int.reduceLE, Int.reduceLT, Int.reduceMul, Int.reduceNeg, Int.reducePow, Int.reduceSub, Int.reduceToNat, Nat.reduceAdd, Nat.reduceEqDiff, Nat.reduceLT, Nat.reduceLeDiff, Nat.reduceMul, reduceCtorEq]
  refine loop_inv (fun t ρ w' => ∃ (j : Nat) (v : Value), j ≤ q ∧ ρ 9 = v ∧ Gw .u8 w7 w' v ([0, 1] ++ List.replicate j 255) ∧ t = q - j) _ ⟨0, .slice (some ⟨w7.heap.size, 0, none⟩) 2 2, by omega, by simp (disch := omega) only [wu64, wu32, wu8, fdiv_nn, EO, ↓EP, EQ, EM, ↓reduceIte, Int.reduceAdd, Int.reduceEq, Int.reduceLE, Int.reduceLT, Int.reduceMul, Int.reduceNeg, Int.reducePow, Int.reduceSub, Int.reduceToNat, Nat.reduceAdd, Nat.reduceEqDiff, Nat.reduceLT, Nat.reduceLeDiff, Nat.reduceMul, reduceCtorEq], by simpa using G8, rfl⟩ ?_
  rintro t ρ w9 hf ⟨j, v9, hj, h9, G9, rfl⟩ N hN
  have r2 : ρ 2 = .int .i64 n := by rw [hf 2 rfl]; simp (disch := omega) only [wu64, wu32, wu8, fdiv_nn, EO, ↓EP, EQ, EM, ↓reduceIte, Int.reduceAdd, Int.reduceEq, Int.reduceLE, Int.reduceLT, Int.reduceMul, Int.reduceNeg, Int.reducePow, Int.reduceSub, Int.reduceToNat, Nat.reduceAdd, Nat.reduceEqDiff, Nat.reduceLT, Nat.reduceLeDiff, Nat.reduceMul, reduceCtorEq]
  have r8 : ρ 8 = .slice A7 (infoR alg sum).length c7 := by rw [hf 8 rfl]; simp (disch := omega) only [wu64, wu32, wu8, fdiv_nn, EO, ↓EP, EQ, EM, ↓reduceIte, Int.reduceAdd, Int.reduceEq, Int.reduceLE, Int.reduceLT, Int.reduceMul, Int.reduceNeg, Int.reducePow, Int.reduceSub, Int.reduceToNat, Nat.reduceAdd, Nat.reduceEqDiff, Nat.reduceLT, Nat.reduceLeDiff, Nat.reduceMul, reduceCtorEq]
  clear hf
  obtain ⟨A9, c9', rfl, _, _, _⟩ := G9.sl.read
  have hlen : ([0, 1] ++ List.replicate j (255 : Int)).length = j + 2 := by simp
  rw [hlen] at h9
  rw [hlen] at G9
  by_cases cj : (j : Int) < (q : Int)
  · have hcond : (((j + 2 : Nat) : Int)) < n - 1 - ((infoR alg sum).length : Int) := by omega
    simp (disch := omega) only [wu64, wu32, wu8, fdiv_nn, EO, ↓EP, EQ, EM, ↓reduceIte, Int.reduceAdd, Int.reduceEq, Int.reduceLE, Int.reduceLT, Int.reduceMul, Int.reduceNeg, Int.reducePow, Int.reduceSub, Int.reduceToNat, Nat.reduceAdd, Nat.reduceEqDiff, Nat.reduceLT, Nat.reduceLeDiff, Nat.reduceMul, reduceCtorEq, h9, r2, r8, hcond]
    refine bsl1 fun w10 n10 => ?_
    have f10 := n10.fr nob
    simp (disch := omega) only [wu64, wu32, wu8, fdiv_nn, EO, ↓EP, EQ, EM, ↓reduceIte, Int.reduceAdd, Int.reduceEq, Int.reduceLE, Int.reduceLT, Int.reduceMul, Int.reduceNeg, Int.reducePow, Int.reduceSub, Int.reduceToNat, Nat.reduceAdd, Nat.reduceEqDiff, Nat.reduceLT, Nat.reduceLeDiff, Nat.reduceMul, reduceCtorEq, h9]
    refine app_num (G9.step f10).sl rfl n10.rdl (by simp; omega) (by decide) fun v11 w11 a11 => ?_
    have G11 := (G9.step f10).apd a11
    simp (disch := omega) only [wu64, wu32, wu8, fdiv_nn, EO, ↓EP, EQ, EM, ↓reduceIte, Int.reduceAdd, Int.reduceEq, Int.reduceLE, Int.reduceLT, Int.reduceMul, Int.reduceNeg, Int.reducePow, Int.reduceSub, Int.reduceToNat, Nat.reduceAdd, Nat.reduceEqDiff, Nat.reduceLT, Nat.reduceLeDiff, Nat.reduceMul, reduceCtorEq]
    refine hN (q - (j + 1)) _ _ (by omega) ⟨j + 1, v11, by omega, by simp (disch := omega) only [wu64, wu32, wu8, fdiv_nn, EO, ↓EP, EQ, EM, ↓reduceIte, Int.reduceAdd, Int.reduceEq, Int.reduceLE, Int.reduceLT, Int.reduceMul, Int.reduceNeg, Int.reducePow, Int.reduceSub, Int.reduceToNat, Nat.reduceAdd, Nat.reduceEqDiff, Nat.reduceLT, Nat.reduceLeDiff, Nat.reduceMul, reduceCtorEq], ?_, rfl⟩
    rw [List.append_assoc, ← List.replicate_succ'] at G11
    exact G11
  · obtain rfl : j = q := by omega
    have hcond : ¬ (((j + 2 : Nat) : Int)) < n - 1 - ((infoR alg sum).length : Int) := by omega
    simp (disch := omega) only [wu64, wu32, wu8, fdiv_nn, EO, ↓EP, EQ, EM, ↓reduceIte, Int.reduceAdd, Int.reduceEq, Int.reduceLE, Int.reduceLT, Int.reduceMul, Int.reduceNeg, Int.reducePow, Int.reduceSub, Int.reduceToNat, Nat.reduceAdd, Nat.reduceEqDiff, Nat.reduceLT, Nat.reduceLeDiff, Nat.reduceMul, reduceCtorEq, h9, r2, r8, hcond]
    refine bsl1 fun w10 n10 => ?_
    have f10 := n10.fr nob
    simp (disch := omega) only [wu64, wu32, wu8, fdiv_nn, EO, ↓EP, EQ, EM, ↓reduceIte, Int.reduceAdd, Int.reduceEq, Int.reduceLE, Int.reduceLT, Int.reduceMul, Int.reduceNeg, Int.reducePow, Int.reduceSub, Int.reduceToNat, Nat.reduceAdd, Nat.reduceEqDiff, Nat.reduceLT, Nat.reduceLeDiff, Nat.reduceMul, reduceCtorEq, h9, r8]
    refine app_num (G9.step f10).sl rfl n10.rdl (by simp; omega) (by decide) fun v11 w11 a11 => ?_
    have G11 := (G9.step f10).apd a11
    obtain ⟨A11, d11, rfl, _, _, _⟩ := G11.sl.read
    simp (disch := omega) only [wu64, wu32, wu8, fdiv_nn, EO, ↓EP, EQ, EM, ↓reduceIte, Int.reduceAdd, Int.reduceEq, Int.reduceLE, Int.reduceLT, Int.reduceMul, Int.reduceNeg, Int.reducePow, Int.reduceSub, Int.reduceToNat, Nat.reduceAdd, Nat.reduceEqDiff, Nat.reduceLT, Nat.reduceLeDiff, Nat.reduceMul, reduceCtorEq, r8]
    refine app_num G11.sl rfl (hr7.nb G11.fr) (by simp; omega) (by decide) fun v12 w12 a12 => ?_
    have G12 := G11.apd a12
    simp (disch := omega) only [wu64, wu32, wu8, fdiv_nn, EO, ↓EP, EQ, EM, ↓reduceIte, Int.reduceAdd, Int.reduceEq, Int.reduceLE, Int.reduceLT, Int.reduceMul, Int.reduceNeg, Int.reducePow, Int.reduceSub, Int.reduceToNat, Nat.reduceAdd, Nat.reduceEqDiff, Nat.reduceLT, Nat.reduceLeDiff, Nat.reduceMul, reduceCtorEq]
    refine hK _ w12 ⟨G12.sl, fun b e => ?_, f7.nb G12.fr⟩
    have := G12.up b e
    have := f7.size
    omega
end Go.Proofs.YtcgplgpdcfocpaaDoor.Der
end
section
set_option linter.unusedVariables false
set_option linter.unusedSimpArgs false
namespace Go.Proofs.YtcgplgpdcfocpaaDoor.Dg
open Go Go.Proofs.YtcgplgpdcfocpaaDoor.Eng
def pw (k : Nat) : Int := 65536 ^ k
theorem pw_zero : pw 0 = 1 := rfl
theorem pw_succ (k : Nat) : pw (k + 1) = pw k * 65536 := by unfold pw; exact Int.pow_succ _ _
theorem pw_pos (k : Nat) : 0 < pw k := by unfold pw; exact Int.pow_pos (by decide)
attribute [irreducible] pw
def val : List Int → Int
  | [] => 0
  | x :: r => x + 65536 * val r
def Lim (l : List Int) : Prop := ∀ x ∈ l, 0 ≤ x ∧ x < 65536
theorem val_nil : val [] = 0 := rfl
theorem val_cons (x : Int) (r : List Int) : val (x :: r) = x + 65536 * val r := rfl
theorem val_one (x : Int) : val [x] = x := by rw [val_cons, val_nil]; omega
theorem Lim.nil : Lim [] := fun x h => by cases h
theorem Lim.cons {x : Int} {r : List Int} (h : Lim (x :: r)) : (0 ≤ x ∧ x < 65536) ∧ Lim r := ⟨h x (by simp), fun y hy => h y (by simp [hy])⟩
theorem Lim.mk {x : Int} {r : List Int} (h0 : 0 ≤ x) (h1 : x < 65536) (h : Lim r) : Lim (x :: r) := fun y hy => by
  rcases List.mem_cons.1 hy with rfl | hy
  · exact ⟨h0, h1⟩
  · exact h y hy
theorem Lim.app {a b : List Int} (ha : Lim a) (hb : Lim b) : Lim (a ++ b) := fun x hx => by
  rcases List.mem_append.1 hx with h | h
  · exact ha x h
  · exact hb x h
theorem Lim.take {l : List Int} (h : Lim l) (n : Nat) : Lim (l.take n) := fun x hx => h x (List.mem_of_mem_take hx)
theorem Lim.drop {l : List Int} (h : Lim l) (n : Nat) : Lim (l.drop n) := fun x hx => h x (List.mem_of_mem_drop hx)
theorem Lim.set {l : List Int} (h : Lim l) (n : Nat) {x : Int} (h0 : 0 ≤ x) (h1 : x < 65536) : Lim (l.set n x) := fun y hy => by
  rcases List.mem_or_eq_of_mem_set hy with h' | rfl
  · exact h y h'
  · exact ⟨h0, h1⟩
theorem at_nat (l : List Int) (k : Nat) : at' l k = l.getD k 0 := by unfold at'; rw [Int.toNat_natCast]
theorem Lim.at {l : List Int} (h : Lim l) (i : Int) : 0 ≤ at' l i ∧ at' l i < 65536 := by
  unfold at'
  rw [List.getD_eq_getElem?_getD]
  cases e : l[i.toNat]? with
  | none => simp
  | some x => exact h x (List.mem_of_getElem? e)
theorem at_get {l : List Int} {k : Nat} (h : k < l.length) : at' l k = l[k] := by rw [at_nat, List.getD_eq_getElem?_getD, List.getElem?_eq_getElem h]; rfl
theorem at_take {l : List Int} {k n : Nat} (h : k < n) : at' (l.take n) k = at' l k := by
  rw [at_nat, at_nat, List.getD_eq_getElem?_getD, List.getD_eq_getElem?_getD, List.getElem?_take, if_pos h]
theorem at_drop (l : List Int) (k n : Nat) : at' (l.drop n) k = at' l (n + k : Nat) := by
  rw [at_nat, at_nat, List.getD_eq_getElem?_getD, List.getD_eq_getElem?_getD, List.getElem?_drop]
theorem at_app {a b : List Int} {k : Nat} (h : k < a.length) : at' (a ++ b) k = at' a k := by
  rw [at_nat, at_nat, List.getD_eq_getElem?_getD, List.getD_eq_getElem?_getD, List.getElem?_append_left h]
theorem val_app : ∀ (a b : List Int), val (a ++ b) = val a + pw a.length * val b
  | [], b => by rw [List.nil_append, List.length_nil, val_nil, pw_zero]; omega
  | x :: a, b => by
    rw [List.cons_append, val_cons, val_cons, val_app a b, List.length_cons, pw_succ]
    grind
theorem val_bd : ∀ {l : List Int}, Lim l → 0 ≤ val l ∧ val l < pw l.length
  | [], _ => by rw [val_nil, List.length_nil, pw_zero]; omega
  | x :: r, h => by
    obtain ⟨hx, hr⟩ := h.cons
    have := val_bd hr
    rw [val_cons, List.length_cons, pw_succ]
    omega
theorem val_zeros (n : Nat) : val (List.replicate n 0) = 0 := by
  induction n with
  | zero => rfl
  | succ n ih => rw [List.replicate_succ, val_cons, ih]; rfl
theorem val_take_succ {l : List Int} {k : Nat} (h : k < l.length) : val (l.take (k + 1)) = val (l.take k) + at' l k * pw k := by
  have e : l.take (k + 1) = l.take k ++ [at' l k] := by
    rw [List.take_add_one, List.getElem?_eq_getElem h, at_get h]; rfl
  have hk : (l.take k).length = k := by rw [List.length_take]; omega
  rw [e, val_app, hk, val_one]
  grind
theorem val_split (l : List Int) {k : Nat} (h : k ≤ l.length) : val l = val (l.take k) + pw k * val (l.drop k) := by
  have hk : (l.take k).length = k := by rw [List.length_take]; omega
  have := val_app (l.take k) (l.drop k)
  rwa [List.take_append_drop, hk] at this
theorem val_one_more {l : List Int} (h : l ≠ []) : ∃ k : Nat, l.length = k + 1 ∧ val l = val (l.take k) + at' l k * pw k := by
  obtain ⟨k, hk⟩ : ∃ k, l.length = k + 1 := ⟨l.length - 1, by have := List.length_pos_iff.2 h; omega⟩
  refine ⟨k, hk, ?_⟩
  rw [← val_take_succ (by omega), ← hk, List.take_length]
def Can (l : List Int) : Prop := Lim l ∧ (l = [] ∨ at' l ((l.length - 1 : Nat) : Int) ≠ 0)
theorem Can.nil : Can [] := ⟨Lim.nil, .inl rfl⟩
theorem Can.pos {l : List Int} (h : Can l) (h0 : l ≠ []) : pw (l.length - 1) ≤ val l := by
  obtain ⟨k, hk, hv⟩ := val_one_more h0
  rcases h.2 with e | e
  · exact absurd e h0
  rw [show l.length - 1 = k by omega] at *
  have h1 := h.1.at k
  have h2 := val_bd (h.1.take k)
  have h3 := Int.mul_le_mul_of_nonneg_right (show (1 : Int) ≤ at' l k by omega) (show (0 : Int) ≤ pw k by have := pw_pos k; omega)
  omega
theorem Can.zero {l : List Int} (h : Can l) (hv : val l = 0) : l = [] := by
  by_cases h0 : l = []
  · exact h0
  · have := h.pos h0
    have := pw_pos (l.length - 1)
    omega
theorem Can.tail {x : Int} {r : List Int} (h : Can (x :: r)) : Can r := by
  refine ⟨h.1.cons.2, ?_⟩
  by_cases hr : r = []
  · exact .inl hr
  · rcases h.2 with e | e
    · cases e
    · right
      have := List.length_pos_iff.2 hr
      obtain ⟨k, hk⟩ : ∃ k, r.length = k + 1 := ⟨r.length - 1, by omega⟩
      rw [List.length_cons, hk] at e
      rw [hk]
      simp only [Nat.add_sub_cancel] at e ⊢
      rw [at_nat] at e ⊢
      simpa using e
theorem Can.uniq : ∀ {a b : List Int}, Can a → Can b → val a = val b → a = b
  | [], b, _, hb, h => (hb.zero h.symm).symm
  | x :: r, [], ha, _, h => ha.zero h
  | x :: r, y :: s, ha, hb, h => by
    rw [val_cons, val_cons] at h
    have h1 := ha.1.cons.1
    have h2 := hb.1.cons.1
    have e : x = y := by omega
    subst e
    rw [Can.uniq ha.tail hb.tail (by omega)]
def digsN : Nat → List Int
  | 0 => []
  | n + 1 => (((n + 1) % 65536 : Nat) : Int) :: digsN ((n + 1) / 65536)
termination_by n => n
decreasing_by omega
theorem digsN_can : ∀ n : Nat, Can (digsN n) ∧ val (digsN n) = n := by
  intro n
  induction n using Nat.strongRecOn with
  | ind n ih =>
    cases n with
    | zero => rw [digsN]; exact ⟨Can.nil, rfl⟩
    | succ n =>
      obtain ⟨hc, hv⟩ := ih ((n + 1) / 65536) (by omega)
      rw [digsN]
      refine ⟨⟨Lim.mk (by omega) (by omega) hc.1, .inr ?_⟩, by rw [val_cons, hv]; omega⟩
      by_cases h0 : digsN ((n + 1) / 65536) = []
      · rw [h0]
        rw [h0, val_nil] at hv
        rw [at_nat]
        simp only [List.length_cons, List.length_nil, Nat.add_sub_cancel]
        show (((n + 1) % 65536 : Nat) : Int) ≠ 0
        omega
      · rcases hc.2 with e | e
        · exact absurd e h0
        · have := List.length_pos_iff.2 h0
          obtain ⟨k, hk⟩ : ∃ k, (digsN ((n + 1) / 65536)).length = k + 1 := ⟨(digsN ((n + 1) / 65536)).length - 1, by omega⟩
          rw [hk] at e
          rw [List.length_cons, hk]
          simp only [Nat.add_sub_cancel] at e ⊢
          rw [at_nat] at e ⊢
          simpa using e
def digs (v : Int) : List Int := digsN v.toNat
theorem digs_can (v : Int) : Can (digs v) := (digsN_can _).1
theorem digs_val {v : Int} (h : 0 ≤ v) : val (digs v) = v := by unfold digs; rw [(digsN_can _).2]; omega
theorem Can.eq {l : List Int} (h : Can l) {v : Int} (hv : val l = v) : l = digs v := by
  have := val_bd h.1
  exact h.uniq (digs_can v) (by rw [digs_val (by omega)]; exact hv)
theorem cut_can {l : List Int} (h : Lim l) {n : Nat} (hn : n ≤ l.length) (hz : ∀ j : Nat, n ≤ j → j < l.length → at' l j = 0) (ht : n = 0 ∨ at' l ((n - 1 : Nat) : Int) ≠ 0) : l.take n = digs (val l) := by
  have hv : val (l.drop n) = 0 := by
    have : l.drop n = List.replicate (l.length - n) 0 := by
      apply List.ext_getElem
      · simp
      · intro i h1 h2
        simp only [List.length_drop] at h1
        rw [List.getElem_drop, List.getElem_replicate, ← at_get (by omega)]
        exact hz (n + i) (by omega) (by omega)
    rw [this, val_zeros]
  refine Can.eq ⟨h.take n, ?_⟩ (by rw [val_split l hn, hv]; omega)
  rcases ht with rfl | ht
  · left; simp
  · by_cases h0 : n = 0
    · left; subst h0; simp
    · right
      rw [List.length_take, Nat.min_eq_left hn, at_take (by omega)]
      exact ht
theorem Can.digs {l : List Int} (h : Can l) : digs (val l) = l := (h.eq rfl).symm
attribute [irreducible] digs
end Go.Proofs.YtcgplgpdcfocpaaDoor.Dg
end
section
set_option linter.unusedVariables false
set_option linter.unusedSimpArgs false
namespace Go.Proofs.YtcgplgpdcfocpaaDoor.Big
open Go Go.Proofs.YtcgplgpdcfocpaaDoor.Eng
def sp : List Int → List Int
  | [] => []
  | x :: r => x % 65536 :: x / 65536 :: sp r
end Go.Proofs.YtcgplgpdcfocpaaDoor.Big
end
section
set_option linter.unusedVariables false
set_option linter.unusedSimpArgs false
namespace Go.Proofs.YtcgplgpdcfocpaaDoor.Spec
open Go Go.RowKit Go.Proofs Go.Proofs.YtcgplgpdcfocpaaDoor.Eng Go.Proofs.YtcgplgpdcfocpaaDoor.Code Go.Proofs.YtcgplgpdcfocpaaDoor.Big
set_option maxRecDepth 100000
attribute [local irreducible] callK S.W opsW scrW
end Go.Proofs.YtcgplgpdcfocpaaDoor.Spec
end
section
set_option linter.unusedVariables false
set_option linter.unusedSimpArgs false
namespace Go.Proofs.YtcgplgpdcfocpaaDoor.Spec
open Go Go.RowKit Go.Proofs Go.Proofs.YtcgplgpdcfocpaaDoor.Eng Go.Proofs.YtcgplgpdcfocpaaDoor.Code Go.Proofs.YtcgplgpdcfocpaaDoor.Big
set_option maxRecDepth 100000
attribute [local irreducible] callK S.W opsW scrW
end Go.Proofs.YtcgplgpdcfocpaaDoor.Spec
end
section
set_option linter.unusedVariables false
set_option linter.unusedSimpArgs false
namespace Go.Proofs.YtcgplgpdcfocpaaDoor.Spec
open Go Go.RowKit Go.Proofs Go.Proofs.YtcgplgpdcfocpaaDoor.Eng Go.Proofs.YtcgplgpdcfocpaaDoor.Code
set_option maxRecDepth 100000
theorem take_at {l r : List Int} {k : Nat} (h : l.take k = r.take k) (h1 : k < l.length) (h2 : k < r.length) (e : at' l k = at' r k) : l.take (k + 1) = r.take (k + 1) := by
  rw [List.take_add_one, List.take_add_one, h, List.getElem?_eq_getElem h1, List.getElem?_eq_getElem h2]
  simp [at', h1, h2] at e
  rw [e]
theorem same_spec {w : World} {A B : Option Addr} {n m c d : Nat} {l r : List Int} (hn : l.length = n) (hm : r.length = m) (hl : Rd w A (nums .u8 l)) (hr : Rd w B (nums .u8 r)) (h63 : n ≤ 4611686018427387904) (K : Value → World → Prop)
    (hK : ∀ w', Fr w w' nob → K (.bool (decide (l = r))) w') : callK Tryd.prog 16 [.slice A n c, .slice B m d] w K := by
  refine call_of Tryd.func16 Code.h16 (by simp [Code.c16]) ?_
  subst hn
  subst hm
  by_cases hlen : (l.length : Int) = (r.length : Int)
  · simp (disch := omega) only [EO, ↓EP, EQ, EM, ↓reduceIte, Int.reduceAdd, Int.reduceEq, Int.reduceLE, Int.reduceLT, Int.reduceMul, Int.reduceNeg, Int.reducePow, Int.reduceSub, Int.reduceToNat, Nat.reduceAdd, Nat.reduceEqDiff, Nat.reduceLT, Nat.reduceLeDiff, Nat.reduceMul, reduceCtorEq, Code.c16, hlen]
    refine loop_inv (fun t ρ w' => ∃ k : Nat, ρ 5 = .int .i64 k ∧ k ≤ r.length ∧ t = r.length - k ∧ l.take k = r.take k ∧ ∃ j, w' = w.drewN j) _ ⟨0, by simp (disch := omega) only [EO, ↓EP, EQ, EM, ↓reduceIte, Int.reduceAdd, Int.reduceEq, Int.reduceLE, Int.reduceLT, Int.reduceMul, Int.reduceNeg, Int.reducePow, Int.reduceSub, Int.reduceToNat, Nat.reduceAdd, Nat.reduceEqDiff, Nat.reduceLT, Nat.reduceLeDiff, Nat.reduceMul, reduceCtorEq], by omega, rfl, by simp, 0, rfl⟩ ?_
    rintro t ρ w' hf ⟨k, h5, hk, rfl, ht, j, rfl⟩ N hN
    have r0 : ρ 0 = .slice A l.length c := by rw [hf 0 rfl]; simp only [↓EP, EQ, EM, ↓reduceIte, Int.reduceAdd, Int.reduceEq, Int.reduceLE, Int.reduceLT, Int.reduceMul, Int.reduceNeg, Int.reducePow, Int.reduceSub, Int.reduceToNat, Nat.reduceAdd, Nat.reduceEqDiff, Nat.reduceLT, Nat.reduceLeDiff, Nat.reduceMul, reduceCtorEq]
    have r1 : ρ 1 = .slice B r.length d := by rw [hf 1 rfl]; simp only [↓EP, EQ, EM, ↓reduceIte, Int.reduceAdd, Int.reduceEq, Int.reduceLE, Int.reduceLT, Int.reduceMul, Int.reduceNeg, Int.reducePow, Int.reduceSub, Int.reduceToNat, Nat.reduceAdd, Nat.reduceEqDiff, Nat.reduceLT, Nat.reduceLeDiff, Nat.reduceMul, reduceCtorEq]
    clear hf
    by_cases hkl : (k : Int) < (r.length : Int)
    · obtain ⟨p, rfl, _, hp⟩ := hl.get (by rw [nums_length]; omega)
      obtain ⟨q, rfl, _, hq⟩ := hr.get (by rw [nums_length]; omega)
      have cp := hp.numN (j := k) (by omega)
      have cq := hq.numN (j := k) (by omega)
      by_cases he : at' l k = at' r k
      · simp (disch := omega) only [EO, ↓EP, EQ, EM, ↓reduceIte, Int.reduceAdd, Int.reduceEq, Int.reduceLE, Int.reduceLT, Int.reduceMul, Int.reduceNeg, Int.reducePow, Int.reduceSub, Int.reduceToNat, Nat.reduceAdd, Nat.reduceEqDiff, Nat.reduceLT, Nat.reduceLeDiff, Nat.reduceMul, reduceCtorEq, h5, r0, r1, hlen, cp, cq, he]
        intro m
        exact hN (r.length - (k + 1)) _ _ (by omega) ⟨k + 1, by simp (disch := omega) only [EO, ↓EP, EQ, EM, ↓reduceIte, Int.reduceAdd, Int.reduceEq, Int.reduceLE, Int.reduceLT, Int.reduceMul, Int.reduceNeg, Int.reducePow, Int.reduceSub, Int.reduceToNat, Nat.reduceAdd, Nat.reduceEqDiff, Nat.reduceLT, Nat.reduceLeDiff, Nat.reduceMul, reduceCtorEq, h5, Int.natCast_add], by omega, rfl, take_at ht (by omega) (by omega) he, _, rfl⟩
      · have hf : (at' l k = at' r k) = False := eq_false he
        simp (disch := omega) only [EO, ↓EP, EQ, EM, ↓reduceIte, Int.reduceAdd, Int.reduceEq, Int.reduceLE, Int.reduceLT, Int.reduceMul, Int.reduceNeg, Int.reducePow, Int.reduceSub, Int.reduceToNat, Nat.reduceAdd, Nat.reduceEqDiff, Nat.reduceLT, Nat.reduceLeDiff, Nat.reduceMul, reduceCtorEq, h5, r0, r1, hlen, cp, cq, hf]
        intro m
        have hne : decide (l = r) = false := decide_eq_false fun e => he (by rw [e])
        have := hK (w.drewN (j + m)) (Fr.drewN w _ _)
        rwa [hne] at this
    · simp (disch := omega) only [EO, ↓EP, EQ, EM, ↓reduceIte, Int.reduceAdd, Int.reduceEq, Int.reduceLE, Int.reduceLT, Int.reduceMul, Int.reduceNeg, Int.reducePow, Int.reduceSub, Int.reduceToNat, Nat.reduceAdd, Nat.reduceEqDiff, Nat.reduceLT, Nat.reduceLeDiff, Nat.reduceMul, reduceCtorEq, h5, r0, hlen]
      have hall : l = r := by
        have hkr : k = r.length := by omega
        subst hkr
        rwa [List.take_of_length_le (by omega), List.take_of_length_le (Nat.le_refl _)] at ht
      have := hK (w.drewN j) (Fr.drewN w _ _)
      rwa [decide_eq_true hall] at this
  · have hne : decide (l = r) = false := decide_eq_false fun e => hlen (by rw [e])
    have hf : ((l.length : Int) = (r.length : Int)) = False := eq_false hlen
    simp (disch := omega) only [EO, ↓EP, EQ, EM, ↓reduceIte, Int.reduceAdd, Int.reduceEq, Int.reduceLE, Int.reduceLT, Int.reduceMul, Int.reduceNeg, Int.reducePow, Int.reduceSub, Int.reduceToNat, Nat.reduceAdd, Nat.reduceEqDiff, Nat.reduceLT, Nat.reduceLeDiff, Nat.reduceMul, reduceCtorEq, Code.c16, hf]
    have := hK w (Fr.refl _ _)
    rwa [hne] at this
end Go.Proofs.YtcgplgpdcfocpaaDoor.Spec
end
section
set_option linter.unusedVariables false
set_option linter.unusedSimpArgs false
namespace Go.Proofs.YtcgplgpdcfocpaaDoor.Spec
open Go Go.RowKit Go.Proofs Go.Proofs.YtcgplgpdcfocpaaDoor.Eng Go.Proofs.YtcgplgpdcfocpaaDoor.Code
set_option maxRecDepth 100000
structure Lnt (k : IntKind) (w0 w : World) (v : Value) (l : List Int) (x y : Int) : Prop where
  ex : ∃ b pad, v = .slice (some ⟨b, 0, none⟩) l.length (l.length + (2 + pad.length)) ∧ Blk w b (nums k (l ++ [x, y] ++ pad)) ∧ w0.heap.size ≤ b
theorem Lnt.fr {k : IntKind} {w0 w w' : World} {v : Value} {l : List Int} {x y : Int} (h : Lnt k w0 w v l x y) {P : Nat → Prop} (f : Fr w w' P) (hp : ∀ b, blkOf v = some b → ¬ P b) : Lnt k w0 w' v l x y := by
  obtain ⟨b, pad, rfl, hB, hb⟩ := h.ex
  exact ⟨b, pad, rfl, hB.fr f (hp b rfl), hb⟩
theorem Lnt.read {k : IntKind} {w0 w : World} {v : Value} {l : List Int} {x y : Int} (h : Lnt k w0 w v l x y) : ∃ b c, v = .slice (some ⟨b, 0, none⟩) l.length c ∧ l.length + 2 ≤ c ∧ w0.heap.size ≤ b ∧ Rd w (some ⟨b, 0, none⟩) (nums k l) := by
  obtain ⟨b, pad, rfl, hB, hb⟩ := h.ex
  exact ⟨b, _, rfl, by omega, hb, hB.rd 0 (n := l.length) (by rw [List.drop_zero, nums_take]; simp)⟩
theorem sl_lnt {k : IntKind} {w0 w : World} {A : Option Addr} {n c : Nat} {l : List Int} {x y : Int} (g : Gw k w0 w (.slice A n c) (l ++ [x, y])) : Lnt k w0 w (.slice A l.length c) l x y ∧ l.length + 2 ≤ c := by
  rcases g.sl with ⟨h, _⟩ | ⟨b, pad, e, hB⟩
  · simp at h
  · cases e
    refine ⟨⟨b, pad, ?_, hB, g.up b rfl⟩, by simp⟩
    simp only [List.length_append, List.length_cons, List.length_nil]
    congr 1; omega
theorem lent_spec {w : World} {A : Option Addr} {n c : Nat} {l : List Int} (hn : l.length = n) (hl : Rd w A (nums .u8 l)) (h47 : n ≤ 140737488355320) (K : Value → World → Prop)
    (hK : ∀ v w', Lnt .u8 w w' v l 90 165 → Fr w w' nob → K v w') : callK Tryd.prog 13 [.slice A n c] w K := by
  refine call_of Tryd.func13 Code.h13 (by simp [Code.c13]) ?_
  subst hn
  simp (disch := omega) only [EO, ↓EP, EQ, EM, ↓reduceIte, Int.reduceAdd, Int.reduceEq, Int.reduceLE, Int.reduceLT, Int.reduceMul, Int.reduceNeg, Int.reducePow, Int.reduceSub, Int.reduceToNat, Nat.reduceAdd, Nat.reduceEqDiff, Nat.reduceLT, Nat.reduceLeDiff, Nat.reduceMul, reduceCtorEq, Code.c13]
  refine al_k (nums .u8 []) rfl fun w1 n1 => ?_
  have g1 : Gw .u8 w w1 (.slice (some ⟨w.heap.size, 0, none⟩) 0 0) [] := ⟨n1.sl, fun b e => by cases e; exact Nat.le_refl _, n1.fr nob⟩
  simp (disch := omega) only [EO, ↓EP, EQ, EM, ↓reduceIte, Int.reduceAdd, Int.reduceEq, Int.reduceLE, Int.reduceLT, Int.reduceMul, Int.reduceNeg, Int.reducePow, Int.reduceSub, Int.reduceToNat, Nat.reduceAdd, Nat.reduceEqDiff, Nat.reduceLT, Nat.reduceLeDiff, Nat.reduceMul, reduceCtorEq]
  refine app_num g1.sl rfl (hl.fr (n1.fr nob) (.inr fun _ _ x => x)) (by rw [List.length_nil]; omega) (by omega) fun v2 w2 a2 => ?_
  have g2 := g1.apd a2
  rw [List.nil_append] at g2
  simp (disch := omega) only [EO, ↓EP, EQ, EM, ↓reduceIte, Int.reduceAdd, Int.reduceEq, Int.reduceLE, Int.reduceLT, Int.reduceMul, Int.reduceNeg, Int.reducePow, Int.reduceSub, Int.reduceToNat, Nat.reduceAdd, Nat.reduceEqDiff, Nat.reduceLT, Nat.reduceLeDiff, Nat.reduceMul, reduceCtorEq]
  refine bsl2 fun w3 n3 => ?_
  have g3 := g2.new n3
  simp (disch := omega) only [EO, ↓EP, EQ, EM, ↓reduceIte, Int.reduceAdd, Int.reduceEq, Int.reduceLE, Int.reduceLT, Int.reduceMul, Int.reduceNeg, Int.reducePow, Int.reduceSub, Int.reduceToNat, Nat.reduceAdd, Nat.reduceEqDiff, Nat.reduceLT, Nat.reduceLeDiff, Nat.reduceMul, reduceCtorEq]
  refine app_num g3.sl rfl n3.rdl (by rw [List.length_cons, List.length_cons, List.length_nil]; omega) (by omega) fun v4 w4 a4 => ?_
  have g4 := g3.apd a4
  obtain ⟨A4, c4, rfl, hc4, _, _⟩ := g4.sl.read
  obtain ⟨h5, h6⟩ := sl_lnt g4
  simp (disch := omega) only [EO, ↓EP, EQ, EM, ↓reduceIte, Int.reduceAdd, Int.reduceEq, Int.reduceLE, Int.reduceLT, Int.reduceMul, Int.reduceNeg, Int.reducePow, Int.reduceSub, Int.reduceToNat, Nat.reduceAdd, Nat.reduceEqDiff, Nat.reduceLT, Nat.reduceLeDiff, Nat.reduceMul, reduceCtorEq]
  exact hK _ _ h5 g4.fr
theorem kept_spec {w0 w : World} {v : Value} {B : Option Addr} {m d : Nat} {l : List Int} (hv : Lnt .u8 w0 w v l 90 165) (hm : l.length = m) (hr : Rd w B (nums .u8 l)) (h47 : m ≤ 140737488355320) (K : Value → World → Prop)
    (hK : ∀ w', Fr w w' nob → K (.bool true) w') : callK Tryd.prog 17 [v, .slice B m d] w K := by
  obtain ⟨b, pad, rfl, hB, hb⟩ := hv.ex
  refine call_of Tryd.func17 Code.h17 (by simp [Code.c17]) ?_
  subst hm
  simp (disch := omega) only [EO, ↓EP, EQ, EM, ↓reduceIte, Int.reduceAdd, Int.reduceEq, Int.reduceLE, Int.reduceLT, Int.reduceMul, Int.reduceNeg, Int.reducePow, Int.reduceSub, Int.reduceToNat, Nat.reduceAdd, Nat.reduceEqDiff, Nat.reduceLT, Nat.reduceLeDiff, Nat.reduceMul, reduceCtorEq, Code.c17]
  have hA : Rd w (some ⟨b, 0, none⟩) (nums .u8 l) := hB.rd 0 (n := l.length) (by rw [List.drop_zero, nums_take]; simp)
  refine same_spec rfl rfl hA hr (by omega) _ fun w' f => ?_
  rw [decide_eq_true rfl]
  have hB' := hB.fr f (fun x => x)
  have c0 : w'.cell? ⟨b, l.length, none⟩ = some (.int .u8 90) := by
    rw [hB'.cell?]; simp [nums]
  have c1 : w'.cell? ⟨b, l.length + 1, none⟩ = some (.int .u8 165) := by
    rw [hB'.cell?]; simp [nums]
  have e1 : ((l.length : Int) + 1).toNat = l.length + 1 := by omega
  simp (disch := omega) only [EO, ↓EP, EQ, EM, ↓reduceIte, Int.reduceAdd, Int.reduceEq, Int.reduceLE, Int.reduceLT, Int.reduceMul, Int.reduceNeg, Int.reducePow, Int.reduceSub, Int.reduceToNat, Nat.reduceAdd, Nat.reduceEqDiff, Nat.reduceLT, Nat.reduceLeDiff, Nat.reduceMul, reduceCtorEq, c0, c1, e1]
  exact hK w' f
end Go.Proofs.YtcgplgpdcfocpaaDoor.Spec
end
section
set_option linter.unusedVariables false
set_option linter.unusedSimpArgs false
namespace Go.Proofs.YtcgplgpdcfocpaaDoor.Spec
open Go Go.RowKit Go.Proofs Go.Proofs.YtcgplgpdcfocpaaDoor.Eng Go.Proofs.YtcgplgpdcfocpaaDoor.Code Go.Proofs.YtcgplgpdcfocpaaDoor.Big
set_option maxRecDepth 100000
attribute [local irreducible] callK S.W opsW scrW
theorem Gw.slice {k : IntKind} {w w' : World} {v : Value} {l : List Int} (g : Gw k w w' v l) : ∃ B d, v = .slice B l.length d := by
  obtain ⟨B, d, e, _⟩ := g.vw
  exact ⟨B, d, e⟩
theorem Lnt.vw {k : IntKind} {w0 w : World} {v : Value} {l : List Int} {x y : Int} (h : Lnt k w0 w v l x y) : Vw k w v l := by
  obtain ⟨b, c, rfl, hc, _, hr⟩ := h.read
  exact ⟨_, c, rfl, by omega, hr⟩
theorem Lnt.nb {k : IntKind} {w0 w w' : World} {v : Value} {l : List Int} {x y : Int} (h : Lnt k w0 w v l x y) (f : Fr w w' nob) : Lnt k w0 w' v l x y := h.fr f fun _ _ e => e
theorem lentb_vw {w : World} {va : Value} {l : List Int} (ha : Vw .u8 w va l) (h : l.length ≤ 140737488355320) (K : Value → World → Prop)
    (hK : ∀ v w', Lnt .u8 w w' v l 90 165 → Fr w w' nob → K v w') : callK Tryd.prog 13 [va] w K := by
  obtain ⟨A, c, rfl, hc, hr⟩ := ha
  exact lent_spec rfl hr h K hK
theorem keptb_vw {w0 w : World} {v vb : Value} {l : List Int} (hv : Lnt .u8 w0 w v l 90 165) (hb : Vw .u8 w vb l) (h : l.length ≤ 140737488355320) (K : Value → World → Prop)
    (hK : ∀ w', Fr w w' nob → K (.bool true) w') : callK Tryd.prog 17 [v, vb] w K := by
  obtain ⟨A, c, rfl, hc, hr⟩ := hb
  exact kept_spec hv rfl hr h K hK
end Go.Proofs.YtcgplgpdcfocpaaDoor.Spec
end
section
set_option linter.unusedVariables false
set_option linter.unusedSimpArgs false
namespace Go.Proofs.YtcgplgpdcfocpaaDoor.Spec
open Go Go.RowKit Go.Proofs Go.Proofs.YtcgplgpdcfocpaaDoor.Eng Go.Proofs.YtcgplgpdcfocpaaDoor.Code Go.Proofs.YtcgplgpdcfocpaaDoor.Big
set_option maxRecDepth 100000
attribute [local irreducible] callK S.W opsW scrW
end Go.Proofs.YtcgplgpdcfocpaaDoor.Spec
end
section
set_option linter.unusedVariables false
set_option linter.unusedSimpArgs false
namespace Go.Proofs.YtcgplgpdcfocpaaDoor.Spec
open Go Go.RowKit Go.Proofs Go.Proofs.YtcgplgpdcfocpaaDoor.Eng Go.Proofs.YtcgplgpdcfocpaaDoor.Code Go.Proofs.YtcgplgpdcfocpaaDoor.Big
set_option maxRecDepth 100000
attribute [local irreducible] callK S.W opsW scrW
end Go.Proofs.YtcgplgpdcfocpaaDoor.Spec
end
section
set_option linter.unusedVariables false
set_option linter.unusedSimpArgs false
namespace Go.Proofs.YtcgplgpdcfocpaaDoor.Spec
open Go Go.RowKit Go.Proofs Go.Proofs.YtcgplgpdcfocpaaDoor.Eng Go.Proofs.YtcgplgpdcfocpaaDoor.Code Go.Proofs.YtcgplgpdcfocpaaDoor.Big
set_option maxRecDepth 100000
attribute [local irreducible] callK S.W opsW scrW
theorem fr_drewN' (w : World) (n : Nat) : Fr w (w.drewN n) nob := ⟨below_drewN' (Below.refl _ _) n, fun b hb _ => rfl⟩
theorem odd_and {a b : Int} (ha : 0 ≤ a ∧ a < 4294967296) (hb : 0 ≤ b ∧ b < 4294967296) : bits .and .u32 (bits .and .u32 a b) 1 = a % 2 * (b % 2) := by
  have e1 := u32_and a b (by omega) (by omega) (by omega) (by omega)
  rw [e1]
  have hlt : a.toNat &&& b.toNat < 4294967296 := Nat.lt_of_le_of_lt Nat.and_le_left (by omega)
  rw [u32_and _ _ (by omega) (by omega) (by omega) (by omega)]
  rw [show (1 : Int).toNat = 1 from rfl, Int.toNat_natCast, Nat.and_one_is_mod]
  have h2 := Nat.and_mod_two_pow (a := a.toNat) (b := b.toNat) (n := 1)
  rw [show 2 ^ 1 = 2 from rfl] at h2
  rw [h2]
  have ca : a.toNat % 2 = 0 ∨ a.toNat % 2 = 1 := by omega
  have cb : b.toNat % 2 = 0 ∨ b.toNat % 2 = 1 := by omega
  have ea : a % 2 = ((a.toNat % 2 : Nat) : Int) := by omega
  have eb : b % 2 = ((b.toNat % 2 : Nat) : Int) := by omega
  rw [ea, eb]
  rcases ca with h | h <;> rcases cb with h' | h' <;> rw [h, h'] <;> decide
theorem lim_at0 {l : List Int} (h : Lim l) (h0 : 0 < l.length) : 0 ≤ at' l 0 ∧ at' l 0 < 4294967296 := by
  cases l with
  | nil => simp at h0
  | cons a l => exact h a (by simp)
def checkR (N E : List Int) : Int := if 256 < N.length ∨ 256 < E.length ∨ bl (val N) < 512 ∨ bl (val E) < 2 ∨ 64 < bl (val E) ∨ at' N 0 % 2 = 0 ∨ at' E 0 % 2 = 0 then 80 else 0
theorem pos_cellsN {k : IntKind} {w : World} {A : Option Addr} {l : List Int} (hr : Rd w A (nums k l)) (h0 : 0 < l.length) : ∃ ad, A = some ad ∧ ∀ i : Nat, i < l.length → w.cell? (ad.add i) = some (.int k (at' l (i : Int))) := by
  obtain ⟨ad, e, _, hcl⟩ := hr.get (by rw [nums_length]; omega)
  exact ⟨ad, e, fun i hi => hcl.numN hi⟩
theorem bl_pos {l : List Int} (h : 0 < bl (val l)) : 0 < l.length := by
  cases l with
  | nil => exact absurd h (by decide)
  | cons a l => simp
set_option maxHeartbeats 4000000 in
theorem check_k {w : World} {vN vE : Value} {N E : List Int} (hN : Vw .u32 w vN N) (hE : Vw .u32 w vE E) (lN : Lim N) (lE : Lim E) (nN : N.length ≤ 4194304) (nE : E.length ≤ 4194304) {K : Value → World → Prop}
    (hK : ∀ w', Fr w w' nob → K (.int .i64 (checkR N E)) w') : callK Tryd.prog 9 [.agg #[vN, vE]] w K := by
  refine call_of Tryd.func9 Code.h9 (by simp [Code.c9]) ?_
  obtain ⟨A, c, rfl, hc, hr⟩ := hN
  obtain ⟨B, d, rfl, hd, hs⟩ := hE
  simp (disch := omega) only [wu64, wu32, wu8, fdiv_nn, EO, ↓EP, EQ, EM, ↓reduceIte, Int.reduceAdd, Int.reduceEq, Int.reduceLE, Int.reduceLT, Int.reduceMul, Int.reduceNeg, Int.reducePow, Int.reduceSub, Int.reduceToNat, Nat.reduceAdd, Nat.reduceEqDiff, Nat.reduceLT, Nat.reduceLeDiff, Nat.reduceMul, reduceCtorEq, Code.c9]
  refine al_k [.slice A N.length c, .slice B E.length d] rfl fun w1 n1 => ?_
  have f1 := n1.fr nob
  have c0 : w1.cell? ⟨w.heap.size, 0, none⟩ = some (.slice A N.length c) := n1.blk.has 0 _ rfl
  have c1 : w1.cell? ⟨w.heap.size, 1, none⟩ = some (.slice B E.length d) := n1.blk.has 1 _ rfl
  simp (disch := omega) only [wu64, wu32, wu8, fdiv_nn, EO, ↓EP, EQ, EM, ↓reduceIte, Int.reduceAdd, Int.reduceEq, Int.reduceLE, Int.reduceLT, Int.reduceMul, Int.reduceNeg, Int.reducePow, Int.reduceSub, Int.reduceToNat, Nat.reduceAdd, Nat.reduceEqDiff, Nat.reduceLT, Nat.reduceLeDiff, Nat.reduceMul, reduceCtorEq, c0, c1]
  intro m
  have g1 := fr_drewN' w1 (1 + m)
  refine bits_vw ⟨A, c, rfl, hc, (hr.nb f1).nb g1⟩ lN (by omega) _ ?_
  simp (disch := omega) only [wu64, wu32, wu8, fdiv_nn, EO, ↓EP, EQ, EM, ↓reduceIte, Int.reduceAdd, Int.reduceEq, Int.reduceLE, Int.reduceLT, Int.reduceMul, Int.reduceNeg, Int.reducePow, Int.reduceSub, Int.reduceToNat, Nat.reduceAdd, Nat.reduceEqDiff, Nat.reduceLT, Nat.reduceLeDiff, Nat.reduceMul, reduceCtorEq, c0, c1]
  intro m2
  have g2 := fr_drewN' w1 (1 + m + m2)
  refine bits_vw ⟨B, d, rfl, hd, (hs.nb f1).nb g2⟩ lE (by omega) _ ?_
  have bad : ∀ w', Fr w1 w' nob → (256 < N.length ∨ 256 < E.length ∨ bl (val N) < 512 ∨ bl (val E) < 2 ∨ 64 < bl (val E) ∨ at' N 0 % 2 = 0 ∨ at' E 0 % 2 = 0) → K (.int .i64 80) w' := fun w' f h => by
    have e : checkR N E = 80 := if_pos h
    rw [e] at hK
    exact hK w' (f1.nb f)
  simp (disch := omega) only [wu64, wu32, wu8, fdiv_nn, EO, ↓EP, EQ, EM, ↓reduceIte, Int.reduceAdd, Int.reduceEq, Int.reduceLE, Int.reduceLT, Int.reduceMul, Int.reduceNeg, Int.reducePow, Int.reduceSub, Int.reduceToNat, Nat.reduceAdd, Nat.reduceEqDiff, Nat.reduceLT, Nat.reduceLeDiff, Nat.reduceMul, reduceCtorEq, W_join, c0, c1]
  intro m3
  have g3 := fr_drewN' w1 (1 + m + m2 + m3)
  by_cases h1 : (256 : Int) < (N.length : Int)
  · simp (disch := omega) only [wu64, wu32, wu8, fdiv_nn, EO, ↓EP, EQ, EM, ↓reduceIte, Int.reduceAdd, Int.reduceEq, Int.reduceLE, Int.reduceLT, Int.reduceMul, Int.reduceNeg, Int.reducePow, Int.reduceSub, Int.reduceToNat, Nat.reduceAdd, Nat.reduceEqDiff, Nat.reduceLT, Nat.reduceLeDiff, Nat.reduceMul, reduceCtorEq, W_join, c0, c1, h1]
    exact bad _ g3 (.inl (by omega))
  by_cases h2 : (256 : Int) < (E.length : Int)
  · simp (disch := omega) only [wu64, wu32, wu8, fdiv_nn, EO, ↓EP, EQ, EM, ↓reduceIte, Int.reduceAdd, Int.reduceEq, Int.reduceLE, Int.reduceLT, Int.reduceMul, Int.reduceNeg, Int.reducePow, Int.reduceSub, Int.reduceToNat, Nat.reduceAdd, Nat.reduceEqDiff, Nat.reduceLT, Nat.reduceLeDiff, Nat.reduceMul, reduceCtorEq, W_join, c0, c1, h1, h2]
    exact bad _ g3 (.inr (.inl (by omega)))
  by_cases h3 : (bl (val N) : Int) < 512
  · simp (disch := omega) only [wu64, wu32, wu8, fdiv_nn, EO, ↓EP, EQ, EM, ↓reduceIte, Int.reduceAdd, Int.reduceEq, Int.reduceLE, Int.reduceLT, Int.reduceMul, Int.reduceNeg, Int.reducePow, Int.reduceSub, Int.reduceToNat, Nat.reduceAdd, Nat.reduceEqDiff, Nat.reduceLT, Nat.reduceLeDiff, Nat.reduceMul, reduceCtorEq, W_join, c0, c1, h1, h2, h3]
    exact bad _ g3 (.inr (.inr (.inl (by omega))))
  by_cases h4 : (bl (val E) : Int) < 2
  · simp (disch := omega) only [wu64, wu32, wu8, fdiv_nn, EO, ↓EP, EQ, EM, ↓reduceIte, Int.reduceAdd, Int.reduceEq, Int.reduceLE, Int.reduceLT, Int.reduceMul, Int.reduceNeg, Int.reducePow, Int.reduceSub, Int.reduceToNat, Nat.reduceAdd, Nat.reduceEqDiff, Nat.reduceLT, Nat.reduceLeDiff, Nat.reduceMul, reduceCtorEq, W_join, c0, c1, h1, h2, h3, h4]
    exact bad _ g3 (.inr (.inr (.inr (.inl (by omega)))))
  by_cases h5 : (64 : Int) < (bl (val E) : Int)
  · simp (disch := omega) only [wu64, wu32, wu8, fdiv_nn, EO, ↓EP, EQ, EM, ↓reduceIte, Int.reduceAdd, Int.reduceEq, Int.reduceLE, Int.reduceLT, Int.reduceMul, Int.reduceNeg, Int.reducePow, Int.reduceSub, Int.reduceToNat, Nat.reduceAdd, Nat.reduceEqDiff, Nat.reduceLT, Nat.reduceLeDiff, Nat.reduceMul, reduceCtorEq, W_join, c0, c1, h1, h2, h3, h4, h5]
    exact bad _ g3 (.inr (.inr (.inr (.inr (.inl (by omega))))))
  have pN : 0 < N.length := bl_pos (by omega)
  have pE : 0 < E.length := bl_pos (by omega)
  obtain ⟨pa, rfl, hcN⟩ := pos_cellsN (hr.nb f1) pN
  obtain ⟨pb, rfl, hcE⟩ := pos_cellsN (hs.nb f1) pE
  have z0 := hcN 0 pN
  have z1 := hcE 0 pE
  have y0 := lim_at0 lN pN
  have y1 := lim_at0 lE pE
  simp (disch := omega) only [wu64, wu32, wu8, fdiv_nn, EO, ↓EP, EQ, EM, ↓reduceIte, Int.reduceAdd, Int.reduceEq, Int.reduceLE, Int.reduceLT, Int.reduceMul, Int.reduceNeg, Int.reducePow, Int.reduceSub, Int.reduceToNat, Nat.reduceAdd, Nat.reduceEqDiff, Nat.reduceLT, Nat.reduceLeDiff, Nat.reduceMul, reduceCtorEq, W_join, c0, c1, h1, h2, h3, h4, h5, z0, z1]
  intro m4
  have g4 := fr_drewN' w1 (1 + m + m2 + m3 + m4)
  rw [odd_and y0 y1]
  by_cases h6 : at' N 0 % 2 = 0
  · rw [h6, Int.zero_mul, if_pos rfl]
    exact bad _ g4 (.inr (.inr (.inr (.inr (.inr (.inl h6))))))
  by_cases h7 : at' E 0 % 2 = 0
  · rw [h7, Int.mul_zero, if_pos rfl]
    exact bad _ g4 (.inr (.inr (.inr (.inr (.inr (.inr h7))))))
  rw [if_neg (by rw [show at' N 0 % 2 = 1 by omega, show at' E 0 % 2 = 1 by omega]; decide)]
  have e : checkR N E = 0 := if_neg (by omega)
  rw [e] at hK
  exact hK _ (f1.nb g4)
end Go.Proofs.YtcgplgpdcfocpaaDoor.Spec
end
section
namespace Go.Proofs.YtcgplgpdcfocpaaDoor.Der
open Go Go.Proofs.YtcgplgpdcfocpaaDoor.Spec Go.Proofs.YtcgplgpdcfocpaaDoor.Big
def kN0 : List Int := [1295419795, 3173228247, 2137395180, 1548933856, 3106420408, 3948765562, 1049120400, 779370009, 4082781268, 1057109357, 1184194943, 1393408190, 1811714008, 4142931574, 3115507167, 2773311948]
def kD0 : List Int := [4047561943, 3660979146, 4003215933, 1116455983, 1700758801, 463339884, 276911730, 3273242993, 4259602957, 2323668540, 3060677354, 1663890463, 3165263865, 2837972243, 519251194, 462218658]
theorem dig_foo : dig 1 [102, 111, 111, 0, 0, 0, 0] = [26, 201, 7, 92, 212, 39, 188, 144, 180, 138, 153, 102, 130, 140, 171, 74, 4, 194, 63, 223] := by decide +kernel
theorem info_zero : infoR 1 (List.replicate 20 0) = [48, 33, 48, 9, 6, 5, 43, 14, 3, 2, 26, 5, 0, 4, 20] ++ List.replicate 20 0 := by decide +kernel
theorem check_small : checkR [15] [3] = 80 := by decide +kernel
theorem check_key0 : checkR kN0 [3] = 0 := by decide +kernel
theorem bits_key0 : bl (val kN0) = 512 := by decide +kernel
theorem lim_key0 : Lim kN0 := by
  have h : kN0.all (fun x => decide (0 ≤ x ∧ x < 4294967296)) = true := by decide +kernel
  intro x hx
  simpa using List.all_eq_true.1 h x hx
end Go.Proofs.YtcgplgpdcfocpaaDoor.Der
end
section
set_option linter.unusedVariables false
set_option linter.unusedSimpArgs false
namespace Go.Proofs.YtcgplgpdcfocpaaDoor.Der
open Go Go.RowKit Go.Proofs Go.Proofs.YtcgplgpdcfocpaaDoor.Eng Go.Proofs.YtcgplgpdcfocpaaDoor.Code
set_option maxRecDepth 100000
attribute [local irreducible] callK S.W opsW scrW scrT
open Go.Proofs.YtcgplgpdcfocpaaDoor.Spec Go.Proofs.YtcgplgpdcfocpaaDoor.Big
attribute [local irreducible] putR putOidR infoR dig checkR kN0 kD0
theorem bl_lim {N : List Int} (h : Lim N) : bl (val N) ≤ 32 * N.length := by
  have hb := val_bd h
  rw [bl_le hb.1]
  have h2 := hb.2
  unfold pw at h2
  rw [Int.pow_mul, show (2 : Int) ^ 32 = 4294967296 from rfl]
  exact h2
def sizeK (N E : List Int) : Int := if checkR N E ≠ 0 then 0 else ((bl (val N) + 7) / 8 : Nat)
set_option maxHeartbeats 4000000 in
theorem sizek_k {w : World} {vN vE : Value} {N E : List Int} (hN : Vw .u32 w vN N) (hE : Vw .u32 w vE E) (lN : Lim N) (lE : Lim E) (nN : N.length ≤ 4194304) (nE : E.length ≤ 4194304) {K : Value → World → Prop}
    (hK : ∀ w', Fr w w' nob → K (.int .i64 (sizeK N E)) w') : callK Tryd.prog 11 [.agg #[vN, vE]] w K := by
  refine call_of Tryd.func11 Code.h11 (by simp [Code.c11]) ?_
  have hN0 := hN
  have hE0 := hE
  obtain ⟨A, c, rfl, hc, hr⟩ := hN0
  obtain ⟨B, d, rfl, hd, hs⟩ := hE0
  simp (disch := omega) only [wu64, wu32, wu8, fdiv_nn, EO, ↓EP, EQ, EM, ↓reduceIte, Int.reduceAdd, Int.reduceEq, Int.reduceLE, Int.reduceLT, Int.reduceMul, Int.reduceNeg, Int.reducePow, Int.reduceSub, Int.reduceToNat, Nat.reduceAdd, Nat.reduceEqDiff, Nat.reduceLT, Nat.reduceLeDiff, Nat.reduceMul, reduceCtorEq, Code.c11]
  refine al_k [.slice A N.length c, .slice B E.length d] rfl fun w1 n1 => ?_
  have f1 := n1.fr nob
  simp (disch := omega) only [wu64, wu32, wu8, fdiv_nn, EO, ↓EP, EQ, EM, ↓reduceIte, Int.reduceAdd, Int.reduceEq, Int.reduceLE, Int.reduceLT, Int.reduceMul, Int.reduceNeg, Int.reducePow, Int.reduceSub, Int.reduceToNat, Nat.reduceAdd, Nat.reduceEqDiff, Nat.reduceLT, Nat.reduceLeDiff, Nat.reduceMul, reduceCtorEq]
  refine n1.blk.ldAgg rfl ?_
  simp (disch := omega) only [wu64, wu32, wu8, fdiv_nn, EO, ↓EP, EQ, EM, ↓reduceIte, Int.reduceAdd, Int.reduceEq, Int.reduceLE, Int.reduceLT, Int.reduceMul, Int.reduceNeg, Int.reducePow, Int.reduceSub, Int.reduceToNat, Nat.reduceAdd, Nat.reduceEqDiff, Nat.reduceLT, Nat.reduceLeDiff, Nat.reduceMul, reduceCtorEq]
  refine check_k (hN.nb f1) (hE.nb f1) lN lE nN nE fun w2 f2 => ?_
  have f12 := f1.nb f2
  have c0 : w2.cell? ⟨w.heap.size, 0, none⟩ = some (.slice A N.length c) := (n1.blk.nb f2).has 0 _ rfl
  by_cases h : checkR N E = 0
  · have e : sizeK N E = ((bl (val N) + 7) / 8 : Nat) := if_neg (by simpa using h)
    rw [e] at hK
    have hbl : bl (val N) ≤ 134217728 := by have := bl_lim lN; omega
    simp (disch := omega) only [wu64, wu32, wu8, fdiv_nn, EO, ↓EP, EQ, EM, ↓reduceIte, Int.reduceAdd, Int.reduceEq, Int.reduceLE, Int.reduceLT, Int.reduceMul, Int.reduceNeg, Int.reducePow, Int.reduceSub, Int.reduceToNat, Nat.reduceAdd, Nat.reduceEqDiff, Nat.reduceLT, Nat.reduceLeDiff, Nat.reduceMul, reduceCtorEq, h, c0]
    refine bits_vw (hN.nb f12) lN (by omega) _ ?_
    simp (disch := omega) only [wu64, wu32, wu8, fdiv_nn, EO, ↓EP, EQ, EM, ↓reduceIte, Int.reduceAdd, Int.reduceEq, Int.reduceLE, Int.reduceLT, Int.reduceMul, Int.reduceNeg, Int.reducePow, Int.reduceSub, Int.reduceToNat, Nat.reduceAdd, Nat.reduceEqDiff, Nat.reduceLT, Nat.reduceLeDiff, Nat.reduceMul, reduceCtorEq]
    exact hK _ f12
  · have e : sizeK N E = 0 := if_pos h
    rw [e] at hK
    simp (disch := omega) only [wu64, wu32, wu8, fdiv_nn, EO, ↓EP, EQ, EM, ↓reduceIte, Int.reduceAdd, Int.reduceEq, Int.reduceLE, Int.reduceLT, Int.reduceMul, Int.reduceNeg, Int.reducePow, Int.reduceSub, Int.reduceToNat, Nat.reduceAdd, Nat.reduceEqDiff, Nat.reduceLT, Nat.reduceLeDiff, Nat.reduceMul, reduceCtorEq, h]
    exact hK _ f12
theorem bslV {e n : Nat} {k : IntKind} {w : World} {parts : List (Nat × Value)} {l : List Int} {K : Value → World → Prop} (h : fillS 1 ((Array.range (n * 1)).map (#[Value.int k 0][· % #[Value.int k 0].size]!)) parts = some (nums k l).toArray)
    (hK : ∀ w', New w w' (nums k l) → K (.slice (some ⟨w.heap.size, 0, none⟩) n n) w') : bslT e 1 n #[.int k 0] parts w K .mk := ⟨_, h, hK _ (new_of rfl (by simp))⟩
theorem fillK2 (A B : Option Addr) (a b c d : Nat) : fillL [(0, 1), (1, 1)] #[(.slice none 0 0), (.slice none 0 0)] [(0, .slice A a b), (1, .slice B c d)] = some [Value.slice A a b, .slice B c d].toArray := by kernel_rfl
theorem len_kN0 : kN0.length = 16 := by unfold kN0; rfl
theorem known0_k {w : World} {K : Value → World → Prop}
    (hK : ∀ A B v w', Rd w' A (nums .u32 kN0) → Rd w' B (nums .u32 [3]) → Fr w w' nob → K (.tuple #[.agg #[.slice A 16 16, .slice B 1 1], v]) w') : callK Tryd.prog 24 [.int .i64 0] w K := by
  refine call_of Tryd.func24 Code.h24 (by simp [Code.c24]) ?_
  simp (disch := omega) only [wu64, wu32, wu8, fdiv_nn, EO, ↓EP, EQ, EM, ↓reduceIte, Int.reduceAdd, Int.reduceEq, Int.reduceLE, Int.reduceLT, Int.reduceMul, Int.reduceNeg, Int.reducePow, Int.reduceSub, Int.reduceToNat, Nat.reduceAdd, Nat.reduceEqDiff, Nat.reduceLT, Nat.reduceLeDiff, Nat.reduceMul, reduceCtorEq, Code.c24]
  refine al_k [.slice none 0 0, .slice none 0 0] rfl fun w1 n1 => ?_
  simp (disch := omega) only [wu64, wu32, wu8, fdiv_nn, EO, ↓EP, EQ, EM, ↓reduceIte, Int.reduceAdd, Int.reduceEq, Int.reduceLE, Int.reduceLT, Int.reduceMul, Int.reduceNeg, Int.reducePow, Int.reduceSub, Int.reduceToNat, Nat.reduceAdd, Nat.reduceEqDiff, Nat.reduceLT, Nat.reduceLeDiff, Nat.reduceMul, reduceCtorEq]
  refine bslV (l := kN0) (by unfold kN0; kernel_rfl) fun w2 n2 => ?_
  simp (disch := omega) only [wu64, wu32, wu8, fdiv_nn, EO, ↓EP, EQ, EM, ↓reduceIte, Int.reduceAdd, Int.reduceEq, Int.reduceLE, Int.reduceLT, Int.reduceMul, Int.reduceNeg, Int.reducePow, Int.reduceSub, Int.reduceToNat, Nat.reduceAdd, Nat.reduceEqDiff, Nat.reduceLT, Nat.reduceLeDiff, Nat.reduceMul, reduceCtorEq]
  refine bslV (l := [3]) (by kernel_rfl) fun w3 n3 => ?_
  simp (disch := omega) only [wu64, wu32, wu8, fdiv_nn, EO, ↓EP, EQ, EM, ↓reduceIte, Int.reduceAdd, Int.reduceEq, Int.reduceLE, Int.reduceLT, Int.reduceMul, Int.reduceNeg, Int.reducePow, Int.reduceSub, Int.reduceToNat, Nat.reduceAdd, Nat.reduceEqDiff, Nat.reduceLT, Nat.reduceLeDiff, Nat.reduceMul, reduceCtorEq]
  refine ⟨_, fillK2 _ _ _ _ _ _, ?_⟩
  simp (disch := omega) only [wu64, wu32, wu8, fdiv_nn, EO, ↓EP, EQ, EM, ↓reduceIte, Int.reduceAdd, Int.reduceEq, Int.reduceLE, Int.reduceLT, Int.reduceMul, Int.reduceNeg, Int.reducePow, Int.reduceSub, Int.reduceToNat, Nat.reduceAdd, Nat.reduceEqDiff, Nat.reduceLT, Nat.reduceLeDiff, Nat.reduceMul, reduceCtorEq]
  refine bslV (l := kD0) (by unfold kD0; kernel_rfl) fun w4 n4 => ?_
  simp (disch := omega) only [wu64, wu32, wu8, fdiv_nn, EO, ↓EP, EQ, EM, ↓reduceIte, Int.reduceAdd, Int.reduceEq, Int.reduceLE, Int.reduceLT, Int.reduceMul, Int.reduceNeg, Int.reducePow, Int.reduceSub, Int.reduceToNat, Nat.reduceAdd, Nat.reduceEqDiff, Nat.reduceLT, Nat.reduceLeDiff, Nat.reduceMul, reduceCtorEq]
  have hB := (((n1.blk.nb (n2.fr nob)).nb (n3.fr nob)).nb (n4.fr nob))
  refine st_whole (cs := [.slice (some ⟨w1.heap.size, 0, none⟩) 16 16, .slice (some ⟨w2.heap.size, 0, none⟩) 1 1]) hB rfl rfl (by simp; exact ⟨rfl, rfl⟩) fun w5 p5 => ?_
  simp (disch := omega) only [wu64, wu32, wu8, fdiv_nn, EO, ↓EP, EQ, EM, ↓reduceIte, Int.reduceAdd, Int.reduceEq, Int.reduceLE, Int.reduceLT, Int.reduceMul, Int.reduceNeg, Int.reducePow, Int.reduceSub, Int.reduceToNat, Nat.reduceAdd, Nat.reduceEqDiff, Nat.reduceLT, Nat.reduceLeDiff, Nat.reduceMul, reduceCtorEq]
  refine p5.blk.ldAgg rfl ?_
  have hz1 := n1.size
  have hz2 := n2.size
  have hz3 := n3.size
  have hz4 := n4.size
  have f2 : Fr w w4 nob := (((n1.fr nob).nb (n2.fr nob)).nb (n3.fr nob)).nb (n4.fr nob)
  refine hK _ _ _ w5 ?_ ?_ (f2.trans p5.fr fun x hx e => by omega)
  · have h := (n2.rdv.nb (n3.fr nob)).nb (n4.fr nob)
    exact h.fr p5.fr (.inr fun p e x => by cases e; simp only at x; omega)
  · have h := n3.rdv.nb (n4.fr nob)
    exact h.fr p5.fr (.inr fun p e x => by cases e; simp only at x; omega)
end Go.Proofs.YtcgplgpdcfocpaaDoor.Der
end
section
set_option linter.unusedVariables false
set_option linter.unusedSimpArgs false
namespace Go.Proofs.YtcgplgpdcfocpaaDoor.Der
open Go Go.RowKit Go.Proofs Go.Proofs.YtcgplgpdcfocpaaDoor.Eng Go.Proofs.YtcgplgpdcfocpaaDoor.Code
set_option maxRecDepth 100000
attribute [local irreducible] callK S.W opsW scrW scrT
open Go.Proofs.YtcgplgpdcfocpaaDoor.Spec Go.Proofs.YtcgplgpdcfocpaaDoor.Big
attribute [local irreducible] putR putOidR infoR dig checkR kN0 kD0
theorem num8_k {e : Int} {w : World} {K : Value → World → Prop} (hK : K (.int .i64 e) w) : callK Tryd.prog 8 [.int .i64 e] w K := by
  refine call_of Tryd.func8 Code.h8 (by simp [Code.c8]) ?_
  simp (disch := omega) only [wu64, wu32, wu8, fdiv_nn, EO, ↓EP, EQ, EM, ↓reduceIte, Int.reduceAdd, Int.reduceEq, Int.reduceLE, Int.reduceLT, Int.reduceMul, Int.reduceNeg, Int.reducePow, Int.reduceSub, Int.reduceToNat, Nat.reduceAdd, Nat.reduceEqDiff, Nat.reduceLT, Nat.reduceLeDiff, Nat.reduceMul, reduceCtorEq, Code.c8]
  exact hK
theorem mask_foo : maskR 1 [102, 111, 111] 3 = ([26, 201, 7], 0) := by
  have h : maskR 1 [102, 111, 111] 3 = ((maskL 1 [102, 111, 111] 3).take 3, 0) := if_neg (by decide)
  have h1 : maskL 1 [102, 111, 111] 1 = dig 1 [102, 111, 111, 0, 0, 0, 0] := by
    rw [maskL_succ, maskL_zero, List.nil_append]
    rfl
  rw [h, ← maskL_take (i := 1) (by decide) (by decide) _ (by rw [h1, dig_foo]; decide), h1, dig_foo]
  rfl
theorem str_foo : ((strOfNums [26, 201, 7]).toList == (⟨#[26, 201, 7]⟩ : ByteArray).toList) = true := by decide +kernel
theorem info_len0 : (infoR 1 (List.replicate 20 0)).length = 35 := by rw [info_zero]; rfl
theorem pad_zero : padR 1 (List.replicate 20 0) 46 = ([0, 1, 255, 255, 255, 255, 255, 255, 255, 255, 0, 48, 33, 48, 9, 6, 5, 43, 14, 3, 2, 26, 5, 0, 4, 20] ++ List.replicate 20 0, 0) := by
  have h : padR 1 (List.replicate 20 0) 46 = if (46 : Int) < (infoR 1 (List.replicate 20 0)).length + 11 then ([], 2) else ([0, 1] ++ List.replicate ((46 : Int).toNat - (infoR 1 (List.replicate 20 0)).length - 3) 255 ++ [0] ++ infoR 1 (List.replicate 20 0), 0) := if_neg (by decide)
  rw [h, info_len0, if_neg (by decide), info_zero]
  rfl
theorem check_s {w : World} {A B : Option Addr} (hN : Rd w A (nums .u32 [15])) (hE : Rd w B (nums .u32 [3])) {K : Value → World → Prop} (hK : ∀ w', Fr w w' nob → K (.int .i64 80) w') : callK Tryd.prog 9 [.agg #[.slice A 1 1, .slice B 1 1]] w K :=
  check_k (N := [15]) (E := [3]) (Vw.of rfl (by decide) hN) (Vw.of rfl (by decide) hE) (fun x h => by simp at h; omega) (fun x h => by simp at h; omega) (by decide) (by decide) fun w' f => by rw [check_small]; exact hK w' f
theorem size_k0 : sizeK kN0 [3] = 64 := by
  unfold sizeK
  rw [check_key0, bits_key0]
  rfl
theorem size_s {w : World} {A B : Option Addr} (hN : Rd w A (nums .u32 kN0)) (hE : Rd w B (nums .u32 [3])) {K : Value → World → Prop} (hK : ∀ w', Fr w w' nob → K (.int .i64 64) w') : callK Tryd.prog 11 [.agg #[.slice A 16 16, .slice B 1 1]] w K :=
  sizek_k (N := kN0) (E := [3]) (Vw.of len_kN0 (by decide) hN) (Vw.of rfl (by decide) hE) lim_key0 (fun x h => by simp at h; omega) (by rw [len_kN0]; decide) (by decide) fun w' f => by rw [size_k0]; exact hK w' f
set_option maxHeartbeats 8000000 in
theorem live8_k {w : World} (hT : Tb w) {K : Value → World → Prop} (hK : ∀ w', Fr w w' nob → K (.bool true) w') : callK Tryd.prog 7 [] w K := by
  refine call_of Tryd.func7 Code.h7 (by simp [Code.c7]) ?_
  simp (disch := omega) only [wu64, wu32, wu8, fdiv_nn, EO, ↓EP, EQ, EM, ↓reduceIte, Int.reduceAdd, Int.reduceEq, Int.reduceLE, Int.reduceLT, Int.reduceMul, Int.reduceNeg, Int.reducePow, Int.reduceSub, Int.reduceToNat, Nat.reduceAdd, Nat.reduceEqDiff, Nat.reduceLT, Nat.reduceLeDiff, Nat.reduceMul, reduceCtorEq, Code.c7]
  refine bsl3 fun w1 n1 => ?_
  simp (disch := omega) only [wu64, wu32, wu8, fdiv_nn, EO, ↓EP, EQ, EM, ↓reduceIte, Int.reduceAdd, Int.reduceEq, Int.reduceLE, Int.reduceLT, Int.reduceMul, Int.reduceNeg, Int.reducePow, Int.reduceSub, Int.reduceToNat, Nat.reduceAdd, Nat.reduceEqDiff, Nat.reduceLT, Nat.reduceLeDiff, Nat.reduceMul, reduceCtorEq, ↓i_cvidT, ↓i_cvbsJ]
  refine cvid_k n1.rdl fun w2 f2 r2 => ?_
  have f02 : Fr w w2 nob := (n1.fr nob).trans f2 fun x hx e => by omega
  simp (disch := omega) only [wu64, wu32, wu8, fdiv_nn, EO, ↓EP, EQ, EM, ↓reduceIte, Int.reduceAdd, Int.reduceEq, Int.reduceLE, Int.reduceLT, Int.reduceMul, Int.reduceNeg, Int.reducePow, Int.reduceSub, Int.reduceToNat, Nat.reduceAdd, Nat.reduceEqDiff, Nat.reduceLT, Nat.reduceLeDiff, Nat.reduceMul, reduceCtorEq]
  refine mask_k (seed := [102, 111, 111]) (hT.fr f02 (fun x => x) (fun x => x)) (Nat.le_refl _) r2 (by decide) fun v3 w3 h3 u3 f3 => ?_
  rw [mask_foo] at h3 ⊢
  obtain ⟨A3, c3, rfl, hc3, hr3⟩ := h3
  have f03 := f02.nb f3
  simp (disch := omega) only [wu64, wu32, wu8, fdiv_nn, EO, ↓EP, EQ, EM, ↓reduceIte, Int.reduceAdd, Int.reduceEq, Int.reduceLE, Int.reduceLT, Int.reduceMul, Int.reduceNeg, Int.reducePow, Int.reduceSub, Int.reduceToNat, Nat.reduceAdd, Nat.reduceEqDiff, Nat.reduceLT, Nat.reduceLeDiff, Nat.reduceMul, reduceCtorEq]
  refine al_k (nums .u8 (List.replicate 20 0)) (by kernel_rfl) fun w4 n4 => ?_
  have f04 := f03.nb (n4.fr nob)
  have hv4 : Vw .u8 w4 (.slice (some ⟨w3.heap.size, 0, none⟩) 20 20) (List.replicate 20 0) := n4.sl.vw
  simp (disch := omega) only [wu64, wu32, wu8, fdiv_nn, EO, ↓EP, EQ, EM, ↓reduceIte, Int.reduceAdd, Int.reduceEq, Int.reduceLE, Int.reduceLT, Int.reduceMul, Int.reduceNeg, Int.reducePow, Int.reduceSub, Int.reduceToNat, Nat.reduceAdd, Nat.reduceEqDiff, Nat.reduceLT, Nat.reduceLeDiff, Nat.reduceMul, reduceCtorEq]
  refine pad_k (by decide) hv4 (by decide) fun v5 w5 g5 => ?_
  rw [pad_zero] at g5 ⊢
  have f05 := f04.nb g5.fr
  obtain ⟨A5, c5, rfl, hc5, hr5, _⟩ := g5.sl.read
  simp (disch := omega) only [wu64, wu32, wu8, fdiv_nn, EO, ↓EP, EQ, EM, ↓reduceIte, Int.reduceAdd, Int.reduceEq, Int.reduceLE, Int.reduceLT, Int.reduceMul, Int.reduceNeg, Int.reducePow, Int.reduceSub, Int.reduceToNat, Nat.reduceAdd, Nat.reduceEqDiff, Nat.reduceLT, Nat.reduceLeDiff, Nat.reduceMul, reduceCtorEq, pr2]
  refine known0_k fun A6 B6 v6 w6 r6 q6 f6 => ?_
  have f06 := f05.nb f6
  simp (disch := omega) only [wu64, wu32, wu8, fdiv_nn, EO, ↓EP, EQ, EM, ↓reduceIte, Int.reduceAdd, Int.reduceEq, Int.reduceLE, Int.reduceLT, Int.reduceMul, Int.reduceNeg, Int.reducePow, Int.reduceSub, Int.reduceToNat, Nat.reduceAdd, Nat.reduceEqDiff, Nat.reduceLT, Nat.reduceLeDiff, Nat.reduceMul, reduceCtorEq]
  refine al_k [.slice none 0 0, .slice none 0 0] rfl fun w7 n7 => ?_
  simp (disch := omega) only [wu64, wu32, wu8, fdiv_nn, EO, ↓EP, EQ, EM, ↓reduceIte, Int.reduceAdd, Int.reduceEq, Int.reduceLE, Int.reduceLT, Int.reduceMul, Int.reduceNeg, Int.reducePow, Int.reduceSub, Int.reduceToNat, Nat.reduceAdd, Nat.reduceEqDiff, Nat.reduceLT, Nat.reduceLeDiff, Nat.reduceMul, reduceCtorEq]
  refine st_whole (cs := [.slice A6 16 16, .slice B6 1 1]) n7.blk rfl rfl (by simp; exact ⟨rfl, rfl⟩) fun w8 p8 => ?_
  have hz7 := n7.size
  have f07 := f06.nb (n7.fr nob)
  have f68 : Fr w6 w8 nob := (n7.fr nob).trans p8.fr fun x hx e => by omega
  have f08 := f06.nb f68
  have f38 : Fr w3 w8 nob := (((n4.fr nob).nb g5.fr).nb f6).nb f68
  have f58 : Fr w5 w8 nob := f6.nb f68
  simp (disch := omega) only [wu64, wu32, wu8, fdiv_nn, EO, ↓EP, EQ, EM, ↓reduceIte, Int.reduceAdd, Int.reduceEq, Int.reduceLE, Int.reduceLT, Int.reduceMul, Int.reduceNeg, Int.reducePow, Int.reduceSub, Int.reduceToNat, Nat.reduceAdd, Nat.reduceEqDiff, Nat.reduceLT, Nat.reduceLeDiff, Nat.reduceMul, reduceCtorEq]
  refine num8_k ?_
  simp (disch := omega) only [wu64, wu32, wu8, fdiv_nn, EO, ↓EP, EQ, EM, ↓reduceIte, Int.reduceAdd, Int.reduceEq, Int.reduceLE, Int.reduceLT, Int.reduceMul, Int.reduceNeg, Int.reducePow, Int.reduceSub, Int.reduceToNat, Nat.reduceAdd, Nat.reduceEqDiff, Nat.reduceLT, Nat.reduceLeDiff, Nat.reduceMul, reduceCtorEq]
  refine num8_k ?_
  simp (disch := omega) only [wu64, wu32, wu8, fdiv_nn, EO, ↓EP, EQ, EM, ↓reduceIte, Int.reduceAdd, Int.reduceEq, Int.reduceLE, Int.reduceLT, Int.reduceMul, Int.reduceNeg, Int.reducePow, Int.reduceSub, Int.reduceToNat, Nat.reduceAdd, Nat.reduceEqDiff, Nat.reduceLT, Nat.reduceLeDiff, Nat.reduceMul, reduceCtorEq, ↓i_cvidT, ↓i_cvbsJ]
  refine cvbs_k (l := [26, 201, 7]) (hr3.nb f38) rfl ?_
  simp (disch := omega) only [wu64, wu32, wu8, fdiv_nn, EO, ↓EP, EQ, EM, ↓reduceIte, Int.reduceAdd, Int.reduceEq, Int.reduceLE, Int.reduceLT, Int.reduceMul, Int.reduceNeg, Int.reducePow, Int.reduceSub, Int.reduceToNat, Nat.reduceAdd, Nat.reduceEqDiff, Nat.reduceLT, Nat.reduceLeDiff, Nat.reduceMul, reduceCtorEq]
  refine eql_k str_foo ?_
  have hlen : ([0, 1, 255, 255, 255, 255, 255, 255, 255, 255, 0, 48, 33, 48, 9, 6, 5, 43, 14, 3, 2, 26, 5, 0, 4, 20] ++ List.replicate 20 (0 : Int)).length = 46 := by decide
  obtain ⟨pa, hpa, _, hcl⟩ := (hr5.nb f58).get (by rw [nums_length, hlen]; decide)
  subst hpa
  have z1 : w8.cell? (pa.add 1) = some (.int .u8 1) := hcl.numN (j := 1) (by rw [hlen]; decide)
  have z10 : w8.cell? (pa.add 10) = some (.int .u8 0) := hcl.numN (j := 10) (by rw [hlen]; decide)
  have z11 : w8.cell? (pa.add 11) = some (.int .u8 48) := hcl.numN (j := 11) (by rw [hlen]; decide)
  simp (disch := omega) only [wu64, wu32, wu8, fdiv_nn, EO, ↓EP, EQ, EM, ↓reduceIte, Int.reduceAdd, Int.reduceEq, Int.reduceLE, Int.reduceLT, Int.reduceMul, Int.reduceNeg, Int.reducePow, Int.reduceSub, Int.reduceToNat, Nat.reduceAdd, Nat.reduceEqDiff, Nat.reduceLT, Nat.reduceLeDiff, Nat.reduceMul, reduceCtorEq, hlen, z1, z10, z11]
  refine bslV (l := [15]) (by kernel_rfl) fun w9 n9 => ?_
  have f9 := n9.fr nob
  simp (disch := omega) only [wu64, wu32, wu8, fdiv_nn, EO, ↓EP, EQ, EM, ↓reduceIte, Int.reduceAdd, Int.reduceEq, Int.reduceLE, Int.reduceLT, Int.reduceMul, Int.reduceNeg, Int.reducePow, Int.reduceSub, Int.reduceToNat, Nat.reduceAdd, Nat.reduceEqDiff, Nat.reduceLT, Nat.reduceLeDiff, Nat.reduceMul, reduceCtorEq]
  refine bslV (l := [3]) (by kernel_rfl) fun w10 n10 => ?_
  have f10 := n10.fr nob
  simp (disch := omega) only [wu64, wu32, wu8, fdiv_nn, EO, ↓EP, EQ, EM, ↓reduceIte, Int.reduceAdd, Int.reduceEq, Int.reduceLE, Int.reduceLT, Int.reduceMul, Int.reduceNeg, Int.reducePow, Int.reduceSub, Int.reduceToNat, Nat.reduceAdd, Nat.reduceEqDiff, Nat.reduceLT, Nat.reduceLeDiff, Nat.reduceMul, reduceCtorEq]
  refine ⟨_, fillK2 _ _ _ _ _ _, ?_⟩
  simp (disch := omega) only [wu64, wu32, wu8, fdiv_nn, EO, ↓EP, EQ, EM, ↓reduceIte, Int.reduceAdd, Int.reduceEq, Int.reduceLE, Int.reduceLT, Int.reduceMul, Int.reduceNeg, Int.reducePow, Int.reduceSub, Int.reduceToNat, Nat.reduceAdd, Nat.reduceEqDiff, Nat.reduceLT, Nat.reduceLeDiff, Nat.reduceMul, reduceCtorEq]
  refine check_s (n9.rdl.nb f10) n10.rdl fun w11 f11 => ?_
  have f8b : Fr w8 w11 nob := (f9.nb f10).nb f11
  simp (disch := omega) only [wu64, wu32, wu8, fdiv_nn, EO, ↓EP, EQ, EM, ↓reduceIte, Int.reduceAdd, Int.reduceEq, Int.reduceLE, Int.reduceLT, Int.reduceMul, Int.reduceNeg, Int.reducePow, Int.reduceSub, Int.reduceToNat, Nat.reduceAdd, Nat.reduceEqDiff, Nat.reduceLT, Nat.reduceLeDiff, Nat.reduceMul, reduceCtorEq]
  refine num8_k ?_
  simp (disch := omega) only [wu64, wu32, wu8, fdiv_nn, EO, ↓EP, EQ, EM, ↓reduceIte, Int.reduceAdd, Int.reduceEq, Int.reduceLE, Int.reduceLT, Int.reduceMul, Int.reduceNeg, Int.reducePow, Int.reduceSub, Int.reduceToNat, Nat.reduceAdd, Nat.reduceEqDiff, Nat.reduceLT, Nat.reduceLeDiff, Nat.reduceMul, reduceCtorEq]
  refine (p8.blk.nb f8b).ldAgg rfl ?_
  simp (disch := omega) only [wu64, wu32, wu8, fdiv_nn, EO, ↓EP, EQ, EM, ↓reduceIte, Int.reduceAdd, Int.reduceEq, Int.reduceLE, Int.reduceLT, Int.reduceMul, Int.reduceNeg, Int.reducePow, Int.reduceSub, Int.reduceToNat, Nat.reduceAdd, Nat.reduceEqDiff, Nat.reduceLT, Nat.reduceLeDiff, Nat.reduceMul, reduceCtorEq]
  refine size_s ((r6.nb f68).nb f8b) ((q6.nb f68).nb f8b) fun w12 f12 => ?_
  simp (disch := omega) only [wu64, wu32, wu8, fdiv_nn, EO, ↓EP, EQ, EM, ↓reduceIte, Int.reduceAdd, Int.reduceEq, Int.reduceLE, Int.reduceLT, Int.reduceMul, Int.reduceNeg, Int.reducePow, Int.reduceSub, Int.reduceToNat, Nat.reduceAdd, Nat.reduceEqDiff, Nat.reduceLT, Nat.reduceLeDiff, Nat.reduceMul, reduceCtorEq]
  exact hK _ ((f08.nb f8b).nb f12)
end Go.Proofs.YtcgplgpdcfocpaaDoor.Der
end
section
set_option linter.unusedVariables false
set_option linter.unusedSimpArgs false
namespace Go.Proofs.YtcgplgpdcfocpaaDoor.Spec
open Go Go.RowKit Go.Proofs Go.Proofs.YtcgplgpdcfocpaaDoor.Eng Go.Proofs.YtcgplgpdcfocpaaDoor.Code Go.Proofs.YtcgplgpdcfocpaaDoor.Big
set_option maxRecDepth 100000
attribute [local irreducible] callK S.W opsW scrW
def Nr (w : World) (v : Value) (x : Int) (P : Nat → Prop) : Prop := 0 ≤ x ∧ ∃ A c, v = .slice A (limbs x).length c ∧ (limbs x).length ≤ c ∧ RO .u32 w A (limbs x) P
theorem Nr.fr {w w' : World} {v : Value} {x : Int} {P : Nat → Prop} (h : Nr w v x P) (f : Fr w w' P) : Nr w' v x P := by
  obtain ⟨h0, A, c, e, hc, hr⟩ := h
  exact ⟨h0, A, c, e, hc, hr.fr f⟩
structure Rw (w : World) (rb : Nat) (rv : List Value) (B M : Int) (k : Nat) : Prop where
  blk : Blk w rb rv
  len : rv.length = 16
  each : ∀ i, i ≤ k → ∃ v, rv[i]? = some v ∧ Nr w v (B ^ i % M) (fun b => b = rb)
theorem Rw.nb {w w' : World} {rb : Nat} {rv : List Value} {B M : Int} {k : Nat} (h : Rw w rb rv B M k) (f : Fr w w' nob) : Rw w' rb rv B M k :=
  ⟨h.blk.nb f, h.len, fun i hi => by obtain ⟨v, e, hv⟩ := h.each i hi; exact ⟨v, e, hv.fr (f.any _)⟩⟩
end Go.Proofs.YtcgplgpdcfocpaaDoor.Spec
end
section
set_option linter.unusedVariables false
set_option linter.unusedSimpArgs false
namespace Go.Proofs.YtcgplgpdcfocpaaDoor.Spec
open Go Go.RowKit Go.Proofs Go.Proofs.YtcgplgpdcfocpaaDoor.Eng Go.Proofs.YtcgplgpdcfocpaaDoor.Code Go.Proofs.YtcgplgpdcfocpaaDoor.Big
set_option maxRecDepth 100000
attribute [local irreducible] callK S.W opsW scrW
end Go.Proofs.YtcgplgpdcfocpaaDoor.Spec
end
section
set_option linter.unusedVariables false
set_option linter.unusedSimpArgs false
namespace Go.Proofs.YtcgplgpdcfocpaaDoor.Spec
open Go Go.RowKit Go.Proofs Go.Proofs.YtcgplgpdcfocpaaDoor.Eng Go.Proofs.YtcgplgpdcfocpaaDoor.Code Go.Proofs.YtcgplgpdcfocpaaDoor.Big
set_option maxRecDepth 100000
attribute [local irreducible] callK S.W opsW scrW
theorem sameb_vw {w : World} {va vb : Value} {l r : List Int} (ha : Vw .u8 w va l) (hb : Vw .u8 w vb r) (h : l.length ≤ 1099511627776) (K : Value → World → Prop)
    (hK : ∀ w', Fr w w' nob → K (.bool (decide (l = r))) w') : callK Tryd.prog 16 [va, vb] w K := by
  obtain ⟨A, c, rfl, hc, hr⟩ := ha
  obtain ⟨B, d, rfl, hd, hs⟩ := hb
  exact same_spec rfl rfl hr hs (by omega) K hK
theorem sameb_yes {w : World} {va vb : Value} {l r : List Int} (ha : Vw .u8 w va l) (hb : Vw .u8 w vb r) (e : l = r) (h : l.length ≤ 1099511627776) (K : Value → World → Prop)
    (hK : ∀ w', Fr w w' nob → K (.bool true) w') : callK Tryd.prog 16 [va, vb] w K :=
  sameb_vw ha hb h K fun w' f => by rw [decide_eq_true e]; exact hK w' f
section
variable {w : World} {va vb vc : Value} {l r m : List Int} {x y z : Int} {n : Nat}
end
end Go.Proofs.YtcgplgpdcfocpaaDoor.Spec
end
section
set_option linter.unusedVariables false
set_option linter.unusedSimpArgs false
namespace Go.Proofs.YtcgplgpdcfocpaaDoor.Der
open Go Go.RowKit Go.Proofs Go.Proofs.YtcgplgpdcfocpaaDoor.Eng Go.Proofs.YtcgplgpdcfocpaaDoor.Code
set_option maxRecDepth 100000
attribute [local irreducible] callK S.W opsW scrW scrT
open Go.Proofs.YtcgplgpdcfocpaaDoor.Spec Go.Proofs.YtcgplgpdcfocpaaDoor.Big
attribute [local irreducible] maskR padR
theorem padR_len {alg : Int} {sum : List Int} {n : Int} : (padR alg sum n).1.length ≤ 4096 := by
  unfold padR
  split
  · simp
  · rename_i h
    have hz := sizeI_nn alg
    have hil := info_len (alg := alg) (sum := sum) (by omega)
    split
    · simp
    · simp only [List.length_append, List.length_replicate, List.length_cons, List.length_nil]; omega
theorem lnt_rd' {w0 w : World} {v : Value} {l : List Int} {x y : Int} (h : Lnt .u8 w0 w v l x y) : ∃ A c, v = .slice A l.length c ∧ l.length ≤ c ∧ Rd w A (nums .u8 l) := by
  obtain ⟨b, c, rfl, hc, _, hr⟩ := h.read
  exact ⟨_, c, rfl, by omega, hr⟩
set_option maxHeartbeats 8000000 in
theorem pads_k {w : World} (hT : Tb w) {alg n : Int} (hn : -9223372036854775808 ≤ n ∧ n ≤ 9223372036854775807) {v : Value} {seed : List Int} (hv : Vw .u8 w v seed) (h63 : seed.length ≤ 9223372036854775807) {K : Value → World → Prop} (hK : ∀ w', Fr w w' nob → K (.bool true) w') : callK Tryd.prog 5 [.int .i64 alg, v, .int .i64 n] w K := by
  refine call_of Tryd.func5 Code.h5 (by simp [Code.c5]) ?_
  have hv0 := hv
  obtain ⟨A, c, rfl, hc, hr⟩ := hv0
  by_cases c0 : (8192 : Int) < (seed.length : Int)
  · simp (disch := omega) only [wu64, wu32, wu8, fdiv_nn, EO, ↓EP, EQ, EM, ↓reduceIte, Int.reduceAdd, Int.reduceEq, Int.reduceLE, Int.reduceLT, Int.reduceMul, Int.reduceNeg, Int.reducePow, Int.reduceSub, Int.reduceToNat, Nat.reduceAdd, Nat.reduceEqDiff, Nat.reduceLT, Nat.reduceLeDiff, Nat.reduceMul, reduceCtorEq, Code.c5, c0]
    refine live8_k hT fun w1 f1 => ?_
    simp (disch := omega) only [wu64, wu32, wu8, fdiv_nn, EO, ↓EP, EQ, EM, ↓reduceIte, Int.reduceAdd, Int.reduceEq, Int.reduceLE, Int.reduceLT, Int.reduceMul, Int.reduceNeg, Int.reducePow, Int.reduceSub, Int.reduceToNat, Nat.reduceAdd, Nat.reduceEqDiff, Nat.reduceLT, Nat.reduceLeDiff, Nat.reduceMul, reduceCtorEq]
    exact hK _ f1
  simp (disch := omega) only [wu64, wu32, wu8, fdiv_nn, EO, ↓EP, EQ, EM, ↓reduceIte, Int.reduceAdd, Int.reduceEq, Int.reduceLE, Int.reduceLT, Int.reduceMul, Int.reduceNeg, Int.reducePow, Int.reduceSub, Int.reduceToNat, Nat.reduceAdd, Nat.reduceEqDiff, Nat.reduceLT, Nat.reduceLeDiff, Nat.reduceMul, reduceCtorEq, Code.c5, c0]
  refine lentb_vw hv (by omega) _ fun v1 w1 L1 f1 => ?_
  obtain ⟨A1, c1, rfl, hc1, hr1⟩ := lnt_rd' L1
  simp (disch := omega) only [wu64, wu32, wu8, fdiv_nn, EO, ↓EP, EQ, EM, ↓reduceIte, Int.reduceAdd, Int.reduceEq, Int.reduceLE, Int.reduceLT, Int.reduceMul, Int.reduceNeg, Int.reducePow, Int.reduceSub, Int.reduceToNat, Nat.reduceAdd, Nat.reduceEqDiff, Nat.reduceLT, Nat.reduceLeDiff, Nat.reduceMul, reduceCtorEq]
  refine pad_k hn ⟨A1, c1, rfl, hc1, hr1⟩ (by omega) fun v2 w2 g2 => ?_
  obtain ⟨A2, c2, rfl, hc2, hr2⟩ := g2.vw
  have f2 := g2.fr
  have f12 := f1.nb f2
  simp (disch := omega) only [wu64, wu32, wu8, fdiv_nn, EO, ↓EP, EQ, EM, ↓reduceIte, Int.reduceAdd, Int.reduceEq, Int.reduceLE, Int.reduceLT, Int.reduceMul, Int.reduceNeg, Int.reducePow, Int.reduceSub, Int.reduceToNat, Nat.reduceAdd, Nat.reduceEqDiff, Nat.reduceLT, Nat.reduceLeDiff, Nat.reduceMul, reduceCtorEq, pr2]
  refine rpad_k hn (hv.nb f12) (by omega) fun v3 w3 g3 => ?_
  obtain ⟨A3, c3, rfl, hc3, hr3⟩ := g3.vw
  have f3 := g3.fr
  have f13 := f12.nb f3
  have hml := padR_len (alg := alg) (sum := seed) (n := n)
  simp (disch := omega) only [wu64, wu32, wu8, fdiv_nn, EO, ↓EP, EQ, EM, ↓reduceIte, Int.reduceAdd, Int.reduceEq, Int.reduceLE, Int.reduceLT, Int.reduceMul, Int.reduceNeg, Int.reducePow, Int.reduceSub, Int.reduceToNat, Nat.reduceAdd, Nat.reduceEqDiff, Nat.reduceLT, Nat.reduceLeDiff, Nat.reduceMul, reduceCtorEq, pr2]
  refine sameb_yes ⟨A2, c2, rfl, hc2, hr2.nb f3⟩ ⟨A3, c3, rfl, hc3, hr3⟩ rfl (by omega) _ fun w4 f4 => ?_
  simp (disch := omega) only [wu64, wu32, wu8, fdiv_nn, EO, ↓EP, EQ, EM, ↓reduceIte, Int.reduceAdd, Int.reduceEq, Int.reduceLE, Int.reduceLT, Int.reduceMul, Int.reduceNeg, Int.reducePow, Int.reduceSub, Int.reduceToNat, Nat.reduceAdd, Nat.reduceEqDiff, Nat.reduceLT, Nat.reduceLeDiff, Nat.reduceMul, reduceCtorEq]
  refine num8_k ?_
  simp (disch := omega) only [wu64, wu32, wu8, fdiv_nn, EO, ↓EP, EQ, EM, ↓reduceIte, Int.reduceAdd, Int.reduceEq, Int.reduceLE, Int.reduceLT, Int.reduceMul, Int.reduceNeg, Int.reducePow, Int.reduceSub, Int.reduceToNat, Nat.reduceAdd, Nat.reduceEqDiff, Nat.reduceLT, Nat.reduceLeDiff, Nat.reduceMul, reduceCtorEq]
  refine keptb_vw (L1.fr ((f2.nb f3).nb f4) fun _ _ x => x) (hv.nb (f13.nb f4)) (by omega) _ fun w5 f5 => ?_
  have f15 := (f13.nb f4).nb f5
  simp (disch := omega) only [wu64, wu32, wu8, fdiv_nn, EO, ↓EP, EQ, EM, ↓reduceIte, Int.reduceAdd, Int.reduceEq, Int.reduceLE, Int.reduceLT, Int.reduceMul, Int.reduceNeg, Int.reducePow, Int.reduceSub, Int.reduceToNat, Nat.reduceAdd, Nat.reduceEqDiff, Nat.reduceLT, Nat.reduceLeDiff, Nat.reduceMul, reduceCtorEq]
  refine live8_k (hT.fr f15 (fun x => x) (fun x => x)) fun w6 f6 => ?_
  simp (disch := omega) only [wu64, wu32, wu8, fdiv_nn, EO, ↓EP, EQ, EM, ↓reduceIte, Int.reduceAdd, Int.reduceEq, Int.reduceLE, Int.reduceLT, Int.reduceMul, Int.reduceNeg, Int.reducePow, Int.reduceSub, Int.reduceToNat, Nat.reduceAdd, Nat.reduceEqDiff, Nat.reduceLT, Nat.reduceLeDiff, Nat.reduceMul, reduceCtorEq]
  exact hK _ (f15.nb f6)
end Go.Proofs.YtcgplgpdcfocpaaDoor.Der
end
section
namespace Go.Proofs.YtcgplgpdcfocpaaDoor
open Go
set_option maxRecDepth 100000
theorem stand_of {P : Program} {fn : Func} (h : (fn.params.toList.all fun t => !P.wantsStandIn t) = true) : ∀ (j : Nat) t, fn.params[j]? = some t → P.wantsStandIn t = false := by
  intro j t hj
  have := List.all_eq_true.1 h t (by rw [Array.mem_toList_iff]; exact Array.mem_of_getElem? hj)
  simpa using this
open Go Go.ChangeShapes Go.WideShapes Go.ChangeAt Go.WideMaps Go.WideElems Go.RowKit Go.Proofs.YtcgplgpdcfocpaaDoor.Eng Go.Proofs.YtcgplgpdcfocpaaDoor.Der
theorem rsaPads_walk {H : Type} {enc : TypeId × Value → H} (W : World) (base : Nat) (args : Array Value) (ds : List (DataW H)) (p : List MemPlace) (hA0 : DataW.TrodAll enc Tryd.prog W 0 (fun _ => true) true Tryd.f5.params.toList args.toList ds p)
    (hval : ∀ (j : Nat) t v, Tryd.f5.params[j]? = some t → args[j]? = some v → Value.okWide Tryd.prog W .any base t v) (hz : (DataW.weightsEach Tryd.prog Tryd.f5.params.toList ds).all (· ≤ reachBytes) = true) (hL : laidMetH Tryd.prog laid2 W) :
    callK Tryd.prog 5 args.toList W fun v w' => v = .bool true ∧ Fr W w' nob := by
  have hA : DataW.TrodAll enc Tryd.prog W 0 (fun _ => true) true Tryd.f5.params.toList args.toList ds p := hA0
  rw [Tryd.params5] at hA hval
  obtain ⟨v0, v1, v2, d0, d1, d2, p0, p1, p2, rfl, rfl, rfl, h0, h1, h2⟩ := trodAll_three hA
  obtain ⟨n0, rfl, -, -, w0⟩ := open_int Tryd.underlying3 (hval 0 3 v0 rfl rfl) h0
  obtain ⟨Ab, cb, lb, mb, rfl, hcb, h63b, -, hlb, hwb⟩ := Row.open_sl Tryd.underlying31 Tryd.underlying5 cells_u8 (hval 1 31 v1 rfl rfl) h1
  obtain ⟨n2, rfl, -, -, w2⟩ := open_int Tryd.underlying3 (hval 2 3 v2 rfl rfl) h2
  exact pads_k (of_laid hL) (Row.wf_i64 w2) ⟨Ab, cb, rfl, hcb, hlb⟩ (by unfold maxLen at h63b; omega) fun w' f => ⟨rfl, f⟩
theorem rsaPads_lifted (os : Os) (started : os.Started) (H : Type) (enc : TypeId × Value → H) :
    ReturnsInHanded {} Tryd.checked os 5 .any (fun w args => (Rows.rsaPadsSpec.pre enc Tryd.prog Tryd.f5 [] false w args ∧ laidMetH Tryd.prog laid2 w) ∧ sizedMet enc Tryd.prog Tryd.f5 (OpenSpec.ofChange Rows.rsaPadsSpec) false w args)
      (Rows.rsaPadsSpec.post enc Tryd.prog Tryd.f5 false true false false) :=
  Row.lifted_of (C := Tryd.checked) (X := fun w _ => laidMetH Tryd.prog laid2 w) (fun _ _ _ hh h => h.of_heap hh) own started (by kernel_rfl) Tryd.func5
    (ChangeSpec.witness_shaped (enc := enc) (C := Tryd.checked) (os := os) (X := fun w _ => laidMetH Tryd.prog laid2 w) false (World.laidAll Tryd.prog os laid2) #[.int .i64 0, .slice none 0 0, .int .i64 0] 8 (World.laidAll_os _ _ _) (lay_shaped os) (by kernel_rfl) (by kernel_rfl) (by kernel_rfl) (door_met os _))
    laidOut (tb := 4) (by kernel_rfl) Tryd.underlying4 rfl (of_decide_eq_true (by kernel_rfl)) (fun ds h => by rw [show Tryd.f5.params.size = 3 by kernel_rfl] at h; obtain ⟨a, b, c, rfl⟩ := Row.len3 h; exact ⟨rfl, rfl, rfl⟩)
    (fun W base args ds p hA hval hz hL => rsaPads_walk (enc := enc) W base args ds p hA hval hz hL)
theorem rsaPads_holds : Rows.RsaPadsSaid :=
  OpenClaim.holds_of_wide 5 Tryd.f5 rfl rfl rfl rfl rfl rfl rfl ⟨rfl, rfl, rfl, rfl, rfl⟩ rfl rfl rfl rfl rfl (by kernel_rfl) Tryd.func5 (by kernel_rfl)
    (of_decide_eq_true (by kernel_rfl)) (by unfold Func.isWrapper; first | (rw [if_pos (by decide +kernel)]; kernel_rfl) | (rw [if_neg (by decide +kernel)]; exact ⟨rfl, rfl⟩))
    (fun os started H enc _ => rsaPads_lifted os started H enc)
theorem rsaPads_card : Rows.RsaPadsCardSaid :=
  Claim7.holds_tied_plain_at .later [] [.data, .data, .data, .pinned] true (true, "4b9797bfd06e9fa53421857f70d4a36c777c49a37cacd77b9ca3a459656b2d16") false
    rsaPads_holds (fun _ h => by cases h) (by kernel_rfl) (fun _ h => by cases h) rsaPads_row_tie rfl ⟨rfl, rfl⟩ (by kernel_rfl) rfl
    (fun f fn hf hfn => by
      obtain rfl : f = 5 := Option.some.inj ((show Tryd.prog.funcNamed "chirograph/chirographlaw08.RsaPads" = some 5 by kernel_rfl).symm.trans hf) |>.symm
      obtain rfl : fn = Tryd.f5 := (Option.some.inj (Tryd.func5.symm.trans hfn)).symm
      exact ⟨by kernel_rfl, stand_of (by kernel_rfl)⟩)
    (by kernel_rfl)
end Go.Proofs.YtcgplgpdcfocpaaDoor
end
