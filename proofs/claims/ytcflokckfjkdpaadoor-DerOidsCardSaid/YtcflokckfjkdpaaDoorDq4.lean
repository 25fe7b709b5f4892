/- The document's object identifiers: a text's numbers, walked. -/
import Derived.Test.YtcflokckfjkdpaaDoorDt9
set_option linter.unusedVariables false
set_option linter.unusedSimpArgs false
namespace Go.Proofs.YtcflokckfjkdpaaDoor.Der
open Go Go.RowKit Go.Proofs Go.Proofs.YtcflokckfjkdpaaDoor.Eng Go.Proofs.YtcflokckfjkdpaaDoor.Code
set_option maxRecDepth 100000
attribute [local irreducible] callK S.W opsW scrW scrT

theorem ixs_eq {u : List UInt8} {i : Nat} {K : Value → Prop} (h : i < u.length) : ixsK (S u) ((i : Nat) : Int) K = K (.int .u8 (at' (ints u) (i : Int))) := by
  rw [ints_at h]
  have e : ((i : Nat) : Int).toNat = i := Int.toNat_natCast i
  unfold ixsK
  apply propext
  constructor
  · rintro ⟨h1, _, h2⟩
    have := S_get h1
    rw [this] at h2
    simpa [e] using h2
  · intro h2
    have h1 : ((i : Nat) : Int).toNat < (S u).size := by rw [S_size, e]; exact h
    refine ⟨h1, by omega, ?_⟩
    rw [S_get h1]
    simpa [e] using h2
def foldv (l : List Int) : Int := l.foldl (fun v c => satA (10 * v + (c - 48))) 0
theorem foldv_snoc (l : List Int) (c : Int) : foldv (l ++ [c]) = satA (10 * foldv l + (c - 48)) := by simp [foldv]
theorem foldv_bd : ∀ (l : List Int) (v : Int), (∀ x ∈ l, 48 ≤ x ∧ x ≤ 57) → 0 ≤ v → v ≤ 1099511627776 → 0 ≤ l.foldl (fun v c => satA (10 * v + (c - 48))) v ∧ l.foldl (fun v c => satA (10 * v + (c - 48))) v ≤ 1099511627776
  | [], v, _, h1, h2 => ⟨h1, h2⟩
  | x :: r, v, h, h1, h2 => by
    have hx := h x (by simp)
    have sb := satA_bd (v := 10 * v + (x - 48)) (by omega)
    exact foldv_bd r _ (fun y hy => h y (by simp [hy])) sb.1 sb.2
def seg (d : List Int) (f i : Nat) : List Int := (d.drop f).take (i - f)
theorem seg_snoc {d : List Int} {f i : Nat} (h : f ≤ i) (hi : i < d.length) : seg d f (i + 1) = seg d f i ++ [at' d (i : Int)] := by
  unfold seg
  rw [show i + 1 - f = (i - f) + 1 by omega, take_snoc (by simp; omega), at_drop, show f + (i - f) = i by omega]
theorem seg_self (d : List Int) (f : Nat) : seg d f f = [] := by simp [seg]
theorem seg_sub {d : List Int} {f k i : Nat} (h : k ≤ i) {x : Int} (hx : x ∈ seg d f k) : x ∈ seg d f i := by
  unfold seg at hx ⊢
  have e : (d.drop f).take (k - f) = ((d.drop f).take (i - f)).take (k - f) := by rw [List.take_take]; congr 1; omega
  rw [e] at hx
  exact List.mem_of_mem_take hx
theorem seg_mem {d : List Int} {f k i : Nat} (h : f ≤ k) (hk : k < i) (hi : i ≤ d.length) : at' d (k : Int) ∈ seg d f i := by
  refine seg_sub (show k + 1 ≤ i by omega) ?_
  rw [seg_snoc h (by omega)]; simp
/-- What is known at a place of the text. -/
structure At (d l : List Int) (f i : Nat) (T : Option (List Int)) : Prop where
  dig : ∀ x ∈ seg d f i, 48 ≤ x ∧ x ≤ 57
  bad : f + 1 < i → at' d (f : Int) = 48 → T = none
  good : ¬ (f + 1 < i ∧ at' d (f : Int) = 48) → arcsGo ((d ++ [46]).drop i) l (foldv (seg d f i)) (min (i - f) 20) = T
theorem drop46 {d : List Int} {i : Nat} (h : i ≤ d.length) : (d ++ [46]).drop i = at' (d ++ [46]) (i : Int) :: (d ++ [46]).drop (i + 1) := drop_at (by simp; omega)
theorem at46 {d : List Int} {i : Nat} (h : i < d.length) : at' (d ++ [46]) (i : Int) = at' d (i : Int) := by
  rw [atN, atN, List.getD_eq_getElem?_getD, List.getD_eq_getElem?_getD, List.getElem?_append_left h]
theorem at46_end {d : List Int} : at' (d ++ [46]) (d.length : Int) = 46 := by
  rw [atN, List.getD_eq_getElem?_getD, List.getElem?_append_right (Nat.le_refl _)]; simp
theorem At.first {d l : List Int} {f : Nat} {T : Option (List Int)} (h : arcsGo ((d ++ [46]).drop f) l 0 0 = T) : At d l f f T :=
  ⟨by rw [seg_self]; simp, fun h1 => by omega, fun _ => by rw [seg_self, Nat.sub_self]; exact h⟩
theorem At.wrong {d l : List Int} {f i : Nat} {T : Option (List Int)} (h : At d l f i T) (hi : i < d.length) (h46 : at' d (i : Int) ≠ 46) (hb : at' d (i : Int) < 48 ∨ 57 < at' d (i : Int)) : T = none := by
  by_cases hc : f + 1 < i ∧ at' d (f : Int) = 48
  · exact h.bad hc.1 hc.2
  · have := h.good hc
    rw [drop46 (by omega), at46 hi, arcsGo, if_neg (fun x => h46 x.1), if_pos (by omega)] at this
    exact this.symm
theorem seg_one {d : List Int} {f : Nat} (h : f < d.length) : seg d f (f + 1) = [at' d (f : Int)] := by
  rw [seg_snoc (Nat.le_refl f) h, seg_self]; rfl
theorem At.zero {d l : List Int} {f : Nat} {T : Option (List Int)} (h : At d l f (f + 1) T) (hf : f < d.length) : (foldv (seg d f (f + 1)) = 0) ↔ at' d (f : Int) = 48 := by
  have hd := h.dig (at' d (f : Int)) (by rw [seg_one hf]; simp)
  rw [seg_one hf]
  simp only [foldv, List.foldl_cons, List.foldl_nil, satA]
  split <;> constructor <;> intro <;> omega
theorem At.digit {d l : List Int} {f i : Nat} {T : Option (List Int)} (h : At d l f i T) (hfi : f ≤ i) (hi : i < d.length) (h0 : 48 ≤ at' d (i : Int)) (h9 : at' d (i : Int) ≤ 57) : At d l f (i + 1) T := by
  have key : ¬ (f + 1 < i ∧ at' d (f : Int) = 48) → (if i = f + 1 ∧ at' d (f : Int) = 48 then none else arcsGo ((d ++ [46]).drop (i + 1)) l (foldv (seg d f (i + 1))) (min (i + 1 - f) 20)) = T := by
    intro hc
    have := h.good hc
    rw [drop46 (by omega), at46 hi, arcsGo, if_neg (by omega)] at this
    by_cases h1 : i = f + 1
    · subst h1
      by_cases hz : at' d (f : Int) = 48
      · rw [if_pos (.inr (.inr ⟨by omega, (h.zero (by omega)).2 hz⟩))] at this
        rw [if_pos ⟨rfl, hz⟩]; exact this
      · rw [if_neg (fun hx => by
          rcases hx with hx | hx | hx
          · omega
          · omega
          · exact hz ((h.zero (by omega)).1 hx.2))] at this
        rw [if_neg (fun hx => hz hx.2), seg_snoc hfi hi, foldv_snoc, ← this]
        congr 1; omega
    · rw [if_neg (by omega)] at this
      rw [if_neg (fun hx => h1 hx.1), seg_snoc hfi hi, foldv_snoc, ← this]
      congr 1; omega
  refine ⟨?_, fun h1 h2 => ?_, fun hc => ?_⟩
  · rw [seg_snoc hfi hi]
    intro x hx
    rw [List.mem_append] at hx
    rcases hx with hx | hx
    · exact h.dig x hx
    · simp at hx; omega
  · by_cases h3 : f + 1 < i
    · exact h.bad h3 h2
    · have := key (fun hx => h3 hx.1)
      rw [if_pos ⟨by omega, h2⟩] at this
      exact this.symm
  · have := key (fun hx => hc ⟨by omega, hx.2⟩)
    rwa [if_neg (fun hx => hc ⟨by omega, hx.2⟩)] at this
theorem At.none_ {d l : List Int} {f i : Nat} {T : Option (List Int)} (h : At d l f i T) (hi : i ≤ d.length) (h46 : at' (d ++ [46]) (i : Int) = 46) (hb : i = f ∨ (at' d (f : Int) = 48 ∧ f + 1 < i)) : T = none := by
  rcases hb with rfl | hb
  · have := h.good (fun hx => by omega)
    rw [drop46 hi, h46, arcsGo, if_neg (by omega), if_pos (by omega)] at this
    exact this.symm
  · exact h.bad hb.2 hb.1
theorem At.next {d l : List Int} {f i : Nat} {T : Option (List Int)} (h : At d l f i T) (hi : i ≤ d.length) (h46 : at' (d ++ [46]) (i : Int) = 46) (hf : f < i) (hb : ¬ (at' d (f : Int) = 48 ∧ f + 1 < i)) : arcsGo ((d ++ [46]).drop (i + 1)) (l ++ [foldv (seg d f i)]) 0 0 = T := by
  have := h.good (fun hx => hb ⟨hx.2, hx.1⟩)
  rw [drop46 hi, h46, arcsGo, if_pos ⟨rfl, by omega⟩] at this
  exact this
set_option maxHeartbeats 4000000 in
theorem rarcs_vw {w : World} {u : List UInt8} (hm : u.length ≤ 1073741824) (K : Value → World → Prop)
    (hK : ∀ v' w', Fr w w' nob → (∀ l, arcsR (ints u) = some l → Gw .i64 w w' v' l) → K (prb v' (arcsR (ints u)).isSome) w') : callK Tryd.prog 51 [.string (S u)] w K := by
  refine call_of Tryd.func51 Code.h51 (by simp [Code.c51]) ?_
  have hT : ∃ T, arcsGo (ints u ++ [46]) [] 0 0 = T := ⟨_, rfl⟩
  obtain ⟨T, hT⟩ := hT
  have hR : ∀ l, T = some l → arcsR (ints u) = if l.length < 2 ∨ 2 < at' l 0 ∨ (at' l 0 < 2 ∧ 40 ≤ at' l 1) then none else some l := fun l hl => by unfold arcsR; rw [hT, hl]
  have hN0 : T = none → arcsR (ints u) = none := fun h => by unfold arcsR; rw [hT, h]
  have fail : T = none → ∀ w', Fr w w' nob → K (prb (.slice none 0 0) false) w' := fun h w' f => by
    have := hK (.slice none 0 0) w' f (fun l hl => by rw [hN0 h] at hl; simp at hl)
    rwa [hN0 h] at this
  have hlen := ints_len u
  simp (disch := omega) only [wu64, wu32, wu8, fdiv_nn, EO, ↓EP, EQ, EM, ↓reduceIte, Int.reduceAdd, Int.reduceEq, Int.reduceLE, Int.reduceLT, Int.reduceMul, Int.reduceNeg, Int.reducePow, Int.reduceSub, Int.reduceToNat, Nat.reduceAdd, Nat.reduceEqDiff, Nat.reduceLT, Nat.reduceLeDiff, Nat.reduceMul, reduceCtorEq, Code.c51, S_size]
  refine loop_inv (fun t ρ w' => ∃ (i f : Nat) (X : Value) (l : List Int), ρ 6 = .int .i64 i ∧ ρ 5 = .int .i64 f ∧ ρ 4 = X ∧ f ≤ i ∧ i ≤ u.length + 1 ∧ t = u.length + 1 - i ∧ l.length ≤ i ∧ Gw .i64 w w' X l ∧ (i = u.length + 1 → T = some l) ∧ (i ≤ u.length → At (ints u) l f i T)) (u.length + 1) ⟨0, 0, _, [], by simp (disch := omega) only [wu64, wu32, wu8, fdiv_nn, EO, ↓EP, EQ, EM, ↓reduceIte, Int.reduceAdd, Int.reduceEq, Int.reduceLE, Int.reduceLT, Int.reduceMul, Int.reduceNeg, Int.reducePow, Int.reduceSub, Int.reduceToNat, Nat.reduceAdd, Nat.reduceEqDiff, Nat.reduceLT, Nat.reduceLeDiff, Nat.reduceMul, reduceCtorEq], by simp (disch := omega) only [wu64, wu32, wu8, fdiv_nn, EO, ↓EP, EQ, EM, ↓reduceIte, Int.reduceAdd, Int.reduceEq, Int.reduceLE, Int.reduceLT, Int.reduceMul, Int.reduceNeg, Int.reducePow, Int.reduceSub, Int.reduceToNat, Nat.reduceAdd, Nat.reduceEqDiff, Nat.reduceLT, Nat.reduceLeDiff, Nat.reduceMul, reduceCtorEq], by simp (disch := omega) only [wu64, wu32, wu8, fdiv_nn, EO, ↓EP, EQ, EM, ↓reduceIte, Int.reduceAdd, Int.reduceEq, Int.reduceLE, Int.reduceLT, Int.reduceMul, Int.reduceNeg, Int.reducePow, Int.reduceSub, Int.reduceToNat, Nat.reduceAdd, Nat.reduceEqDiff, Nat.reduceLT, Nat.reduceLeDiff, Nat.reduceMul, reduceCtorEq], by omega, by omega, by omega, by simp, Gw.nil .i64 w, fun h => by omega, fun _ => At.first hT⟩ ?_
  rintro t ρ w1 hf ⟨i, f, X, l, h6, h5, h4, hfi, hi, rfl, hll, g, hend, hat⟩ N hN
  have r0 : ρ 0 = .string (S u) := by rw [hf 0 rfl]; simp (disch := omega) only [wu64, wu32, wu8, fdiv_nn, EO, ↓EP, EQ, EM, ↓reduceIte, Int.reduceAdd, Int.reduceEq, Int.reduceLE, Int.reduceLT, Int.reduceMul, Int.reduceNeg, Int.reducePow, Int.reduceSub, Int.reduceToNat, Nat.reduceAdd, Nat.reduceEqDiff, Nat.reduceLT, Nat.reduceLeDiff, Nat.reduceMul, reduceCtorEq]
  clear hf
  by_cases hil : (i : Int) ≤ (u.length : Int)
  · have at_ := hat (by omega)
    clear hat hend
    by_cases hsep : at' (ints u ++ [46]) (i : Int) = 46
    rotate_left
    · -- a character that is no dot
      have hi2 : i < u.length := by
        apply Nat.lt_of_le_of_ne (by omega)
        intro e
        apply hsep
        rw [e, ← hlen]
        exact at46_end
      rw [at46 (by omega)] at hsep
      have hsf : (at' (ints u) (i : Int) = 46) = False := eq_false hsep
      have bi := ints_byte u i
      by_cases hw : at' (ints u) (i : Int) < 48 ∨ 57 < at' (ints u) (i : Int)
      · have ht := at_.wrong (by omega) hsep hw
        by_cases h48 : at' (ints u) (i : Int) < 48
        · simp (disch := omega) only [wu64, wu32, wu8, fdiv_nn, EO, ↓EP, EQ, EM, ↓reduceIte, Int.reduceAdd, Int.reduceEq, Int.reduceLE, Int.reduceLT, Int.reduceMul, Int.reduceNeg, Int.reducePow, Int.reduceSub, Int.reduceToNat, Nat.reduceAdd, Nat.reduceEqDiff, Nat.reduceLT, Nat.reduceLeDiff, Nat.reduceMul, reduceCtorEq, W_join, h6, h5, r0, S_size, ixs_eq, hsf]
          exact fail ht w1 g.fr
        · simp (disch := omega) only [wu64, wu32, wu8, fdiv_nn, EO, ↓EP, EQ, EM, ↓reduceIte, Int.reduceAdd, Int.reduceEq, Int.reduceLE, Int.reduceLT, Int.reduceMul, Int.reduceNeg, Int.reducePow, Int.reduceSub, Int.reduceToNat, Nat.reduceAdd, Nat.reduceEqDiff, Nat.reduceLT, Nat.reduceLeDiff, Nat.reduceMul, reduceCtorEq, W_join, h6, h5, r0, S_size, ixs_eq, hsf]
          exact fail ht w1 g.fr
      · have at2 := at_.digit hfi (by omega) (by omega) (by omega)
        simp (disch := omega) only [wu64, wu32, wu8, fdiv_nn, EO, ↓EP, EQ, EM, ↓reduceIte, Int.reduceAdd, Int.reduceEq, Int.reduceLE, Int.reduceLT, Int.reduceMul, Int.reduceNeg, Int.reducePow, Int.reduceSub, Int.reduceToNat, Nat.reduceAdd, Nat.reduceEqDiff, Nat.reduceLT, Nat.reduceLeDiff, Nat.reduceMul, reduceCtorEq, W_join, h6, h5, r0, S_size, ixs_eq, hsf]
        exact hN (u.length + 1 - (i + 1)) _ _ (by omega) ⟨i + 1, f, X, l, by simp (disch := omega) only [wu64, wu32, wu8, fdiv_nn, EO, ↓EP, EQ, EM, ↓reduceIte, Int.reduceAdd, Int.reduceEq, Int.reduceLE, Int.reduceLT, Int.reduceMul, Int.reduceNeg, Int.reducePow, Int.reduceSub, Int.reduceToNat, Nat.reduceAdd, Nat.reduceEqDiff, Nat.reduceLT, Nat.reduceLeDiff, Nat.reduceMul, reduceCtorEq, h6, Int.natCast_add], by simp (disch := omega) only [wu64, wu32, wu8, fdiv_nn, EO, ↓EP, EQ, EM, ↓reduceIte, Int.reduceAdd, Int.reduceEq, Int.reduceLE, Int.reduceLT, Int.reduceMul, Int.reduceNeg, Int.reducePow, Int.reduceSub, Int.reduceToNat, Nat.reduceAdd, Nat.reduceEqDiff, Nat.reduceLT, Nat.reduceLeDiff, Nat.reduceMul, reduceCtorEq, h5], by simp (disch := omega) only [wu64, wu32, wu8, fdiv_nn, EO, ↓EP, EQ, EM, ↓reduceIte, Int.reduceAdd, Int.reduceEq, Int.reduceLE, Int.reduceLT, Int.reduceMul, Int.reduceNeg, Int.reducePow, Int.reduceSub, Int.reduceToNat, Nat.reduceAdd, Nat.reduceEqDiff, Nat.reduceLT, Nat.reduceLeDiff, Nat.reduceMul, reduceCtorEq, h4], by omega, by omega, rfl, by omega, g, fun h => by omega, fun _ => at2⟩
    · by_cases hi2 : (i : Int) < (u.length : Int)
      have h46 := hsep
      rw [at46 (by omega)] at h46
      by_cases hif : i = f
      · have ht := at_.none_ (by omega) hsep (.inl hif)
        subst hif
        simp (disch := omega) only [wu64, wu32, wu8, fdiv_nn, EO, ↓EP, EQ, EM, ↓reduceIte, Int.reduceAdd, Int.reduceEq, Int.reduceLE, Int.reduceLT, Int.reduceMul, Int.reduceNeg, Int.reducePow, Int.reduceSub, Int.reduceToNat, Nat.reduceAdd, Nat.reduceEqDiff, Nat.reduceLT, Nat.reduceLeDiff, Nat.reduceMul, reduceCtorEq, W_join, h6, h5, r0, S_size, ixs_eq, h46]
        exact fail ht w1 g.fr
      have bf := ints_byte u f
      have hff : ((i : Int) = (f : Int)) = False := eq_false (by omega)
      by_cases hz : at' (ints u) (f : Int) = 48 ∧ f + 1 < i
      · have ht := at_.none_ (by omega) hsep (.inr hz)
        simp (disch := omega) only [wu64, wu32, wu8, fdiv_nn, EO, ↓EP, EQ, EM, ↓reduceIte, Int.reduceAdd, Int.reduceEq, Int.reduceLE, Int.reduceLT, Int.reduceMul, Int.reduceNeg, Int.reducePow, Int.reduceSub, Int.reduceToNat, Nat.reduceAdd, Nat.reduceEqDiff, Nat.reduceLT, Nat.reduceLeDiff, Nat.reduceMul, reduceCtorEq, W_join, h6, h5, r0, S_size, ixs_eq, h46, hff, hz.1]
        exact fail ht w1 g.fr
      have hnext := at_.next (by omega) hsep (by omega) hz
      have hdig := at_.dig
      have hz2 : at' (ints u) (f : Int) = 48 → ¬ ((f : Int) + 1 < (i : Int)) := fun h1 h2 => hz ⟨h1, by omega⟩
      have tail : ∀ (ρ' : Env) (N' : Env → World → Prop), True := fun _ _ => trivial
      clear tail
      by_cases h48 : at' (ints u) (f : Int) = 48
      · have hz3 := hz2 h48
        simp (disch := omega) only [wu64, wu32, wu8, fdiv_nn, EO, ↓EP, EQ, EM, ↓reduceIte, Int.reduceAdd, Int.reduceEq, Int.reduceLE, Int.reduceLT, Int.reduceMul, Int.reduceNeg, Int.reducePow, Int.reduceSub, Int.reduceToNat, Nat.reduceAdd, Nat.reduceEqDiff, Nat.reduceLT, Nat.reduceLeDiff, Nat.reduceMul, reduceCtorEq, W_join, h6, h5, r0, S_size, ixs_eq, h46, hff, h48]
        refine loop_inv (fun t ρ2 w2 => w2 = w1 ∧ ∃ k : Nat, ρ2 8 = .int .i64 k ∧ ρ2 7 = .int .i64 (foldv (seg (ints u) f k)) ∧ f ≤ k ∧ k ≤ i ∧ t = i - k) (i - f) ⟨rfl, f, by simp (disch := omega) only [wu64, wu32, wu8, fdiv_nn, EO, ↓EP, EQ, EM, ↓reduceIte, Int.reduceAdd, Int.reduceEq, Int.reduceLE, Int.reduceLT, Int.reduceMul, Int.reduceNeg, Int.reducePow, Int.reduceSub, Int.reduceToNat, Nat.reduceAdd, Nat.reduceEqDiff, Nat.reduceLT, Nat.reduceLeDiff, Nat.reduceMul, reduceCtorEq, h5], by simp (disch := omega) only [wu64, wu32, wu8, fdiv_nn, EO, ↓EP, EQ, EM, ↓reduceIte, Int.reduceAdd, Int.reduceEq, Int.reduceLE, Int.reduceLT, Int.reduceMul, Int.reduceNeg, Int.reducePow, Int.reduceSub, Int.reduceToNat, Nat.reduceAdd, Nat.reduceEqDiff, Nat.reduceLT, Nat.reduceLeDiff, Nat.reduceMul, reduceCtorEq, seg_self]; rfl, by omega, by omega, rfl⟩ ?_
        rintro t ρ2 w2 hf2 ⟨rfl, k, k8, k7, hfk, hki, rfl⟩ N2 hN2
        have q0 : ρ2 0 = .string (S u) := by rw [hf2 0 rfl]; simp (disch := omega) only [wu64, wu32, wu8, fdiv_nn, EO, ↓EP, EQ, EM, ↓reduceIte, Int.reduceAdd, Int.reduceEq, Int.reduceLE, Int.reduceLT, Int.reduceMul, Int.reduceNeg, Int.reducePow, Int.reduceSub, Int.reduceToNat, Nat.reduceAdd, Nat.reduceEqDiff, Nat.reduceLT, Nat.reduceLeDiff, Nat.reduceMul, reduceCtorEq, r0]
        have q4 : ρ2 4 = X := by rw [hf2 4 rfl]; simp (disch := omega) only [wu64, wu32, wu8, fdiv_nn, EO, ↓EP, EQ, EM, ↓reduceIte, Int.reduceAdd, Int.reduceEq, Int.reduceLE, Int.reduceLT, Int.reduceMul, Int.reduceNeg, Int.reducePow, Int.reduceSub, Int.reduceToNat, Nat.reduceAdd, Nat.reduceEqDiff, Nat.reduceLT, Nat.reduceLeDiff, Nat.reduceMul, reduceCtorEq, h4]
        have q6 : ρ2 6 = .int .i64 i := by rw [hf2 6 rfl]; simp (disch := omega) only [wu64, wu32, wu8, fdiv_nn, EO, ↓EP, EQ, EM, ↓reduceIte, Int.reduceAdd, Int.reduceEq, Int.reduceLE, Int.reduceLT, Int.reduceMul, Int.reduceNeg, Int.reducePow, Int.reduceSub, Int.reduceToNat, Nat.reduceAdd, Nat.reduceEqDiff, Nat.reduceLT, Nat.reduceLeDiff, Nat.reduceMul, reduceCtorEq, h6]
        clear hf2
        have vb := foldv_bd (seg (ints u) f k) 0 (fun x hx => hdig x (seg_sub hki hx)) (by omega) (by omega)
        rw [show (seg (ints u) f k).foldl (fun v c => satA (10 * v + (c - 48))) 0 = foldv (seg (ints u) f k) from rfl] at vb
        by_cases hk : (k : Int) < (i : Int)
        · have ck := hdig _ (seg_mem hfk (show k < i by omega) (by omega))
          have hst : foldv (seg (ints u) f (k + 1)) = satA (10 * foldv (seg (ints u) f k) + (at' (ints u) (k : Int) - 48)) := by rw [seg_snoc hfk (by omega), foldv_snoc]
          generalize foldv (seg (ints u) f k) = V at *
          by_cases hcap : 1099511627776 < V * 10 + (at' (ints u) (k : Int) - 48)
          · rw [show satA (10 * V + (at' (ints u) (k : Int) - 48)) = 1099511627776 by unfold satA; split <;> omega] at hst
            simp (disch := omega) only [wu64, wu32, wu8, fdiv_nn, EO, ↓EP, EQ, EM, ↓reduceIte, Int.reduceAdd, Int.reduceEq, Int.reduceLE, Int.reduceLT, Int.reduceMul, Int.reduceNeg, Int.reducePow, Int.reduceSub, Int.reduceToNat, Nat.reduceAdd, Nat.reduceEqDiff, Nat.reduceLT, Nat.reduceLeDiff, Nat.reduceMul, reduceCtorEq, W_join, k8, k7, q0, q6, S_size, ixs_eq]
            exact hN2 (i - (k + 1)) _ _ (by omega) ⟨rfl, k + 1, by simp (disch := omega) only [wu64, wu32, wu8, fdiv_nn, EO, ↓EP, EQ, EM, ↓reduceIte, Int.reduceAdd, Int.reduceEq, Int.reduceLE, Int.reduceLT, Int.reduceMul, Int.reduceNeg, Int.reducePow, Int.reduceSub, Int.reduceToNat, Nat.reduceAdd, Nat.reduceEqDiff, Nat.reduceLT, Nat.reduceLeDiff, Nat.reduceMul, reduceCtorEq, k8, Int.natCast_add], by simp (disch := omega) only [wu64, wu32, wu8, fdiv_nn, EO, ↓EP, EQ, EM, ↓reduceIte, Int.reduceAdd, Int.reduceEq, Int.reduceLE, Int.reduceLT, Int.reduceMul, Int.reduceNeg, Int.reducePow, Int.reduceSub, Int.reduceToNat, Nat.reduceAdd, Nat.reduceEqDiff, Nat.reduceLT, Nat.reduceLeDiff, Nat.reduceMul, reduceCtorEq, hst], by omega, by omega, rfl⟩
          · rw [show satA (10 * V + (at' (ints u) (k : Int) - 48)) = V * 10 + (at' (ints u) (k : Int) - 48) by unfold satA; split <;> omega] at hst
            simp (disch := omega) only [wu64, wu32, wu8, fdiv_nn, EO, ↓EP, EQ, EM, ↓reduceIte, Int.reduceAdd, Int.reduceEq, Int.reduceLE, Int.reduceLT, Int.reduceMul, Int.reduceNeg, Int.reducePow, Int.reduceSub, Int.reduceToNat, Nat.reduceAdd, Nat.reduceEqDiff, Nat.reduceLT, Nat.reduceLeDiff, Nat.reduceMul, reduceCtorEq, W_join, k8, k7, q0, q6, S_size, ixs_eq]
            exact hN2 (i - (k + 1)) _ _ (by omega) ⟨rfl, k + 1, by simp (disch := omega) only [wu64, wu32, wu8, fdiv_nn, EO, ↓EP, EQ, EM, ↓reduceIte, Int.reduceAdd, Int.reduceEq, Int.reduceLE, Int.reduceLT, Int.reduceMul, Int.reduceNeg, Int.reducePow, Int.reduceSub, Int.reduceToNat, Nat.reduceAdd, Nat.reduceEqDiff, Nat.reduceLT, Nat.reduceLeDiff, Nat.reduceMul, reduceCtorEq, k8, Int.natCast_add], by simp (disch := omega) only [wu64, wu32, wu8, fdiv_nn, EO, ↓EP, EQ, EM, ↓reduceIte, Int.reduceAdd, Int.reduceEq, Int.reduceLE, Int.reduceLT, Int.reduceMul, Int.reduceNeg, Int.reducePow, Int.reduceSub, Int.reduceToNat, Nat.reduceAdd, Nat.reduceEqDiff, Nat.reduceLT, Nat.reduceLeDiff, Nat.reduceMul, reduceCtorEq, hst], by omega, by omega, rfl⟩
        · have hke : k = i := by omega
          subst hke
          clear hN2
          simp (disch := omega) only [wu64, wu32, wu8, fdiv_nn, EO, ↓EP, EQ, EM, ↓reduceIte, Int.reduceAdd, Int.reduceEq, Int.reduceLE, Int.reduceLT, Int.reduceMul, Int.reduceNeg, Int.reducePow, Int.reduceSub, Int.reduceToNat, Nat.reduceAdd, Nat.reduceEqDiff, Nat.reduceLT, Nat.reduceLeDiff, Nat.reduceMul, reduceCtorEq, W_join, k8, k7, q0, q4, q6]
          refine bsl1 fun w3 n3 => ?_
          have g3 := g.new n3
          simp (disch := omega) only [wu64, wu32, wu8, fdiv_nn, EO, ↓EP, EQ, EM, ↓reduceIte, Int.reduceAdd, Int.reduceEq, Int.reduceLE, Int.reduceLT, Int.reduceMul, Int.reduceNeg, Int.reducePow, Int.reduceSub, Int.reduceToNat, Nat.reduceAdd, Nat.reduceEqDiff, Nat.reduceLT, Nat.reduceLeDiff, Nat.reduceMul, reduceCtorEq, W_join, k8, k7, q0, q4, q6]
          refine app_num g3.sl rfl n3.rdv (by simp; omega) (by omega) fun v4 w4 a4 => ?_
          have g4 := g3.apd a4
          simp (disch := omega) only [wu64, wu32, wu8, fdiv_nn, EO, ↓EP, EQ, EM, ↓reduceIte, Int.reduceAdd, Int.reduceEq, Int.reduceLE, Int.reduceLT, Int.reduceMul, Int.reduceNeg, Int.reducePow, Int.reduceSub, Int.reduceToNat, Nat.reduceAdd, Nat.reduceEqDiff, Nat.reduceLT, Nat.reduceLeDiff, Nat.reduceMul, reduceCtorEq, W_join, k8, k7, q0, q4, q6]
          refine hN (u.length + 1 - (k + 1)) _ _ (by omega) ⟨k + 1, k + 1, v4, l ++ [foldv (seg (ints u) f k)], by simp (disch := omega) only [wu64, wu32, wu8, fdiv_nn, EO, ↓EP, EQ, EM, ↓reduceIte, Int.reduceAdd, Int.reduceEq, Int.reduceLE, Int.reduceLT, Int.reduceMul, Int.reduceNeg, Int.reducePow, Int.reduceSub, Int.reduceToNat, Nat.reduceAdd, Nat.reduceEqDiff, Nat.reduceLT, Nat.reduceLeDiff, Nat.reduceMul, reduceCtorEq, q6, Int.natCast_add], by simp (disch := omega) only [wu64, wu32, wu8, fdiv_nn, EO, ↓EP, EQ, EM, ↓reduceIte, Int.reduceAdd, Int.reduceEq, Int.reduceLE, Int.reduceLT, Int.reduceMul, Int.reduceNeg, Int.reducePow, Int.reduceSub, Int.reduceToNat, Nat.reduceAdd, Nat.reduceEqDiff, Nat.reduceLT, Nat.reduceLeDiff, Nat.reduceMul, reduceCtorEq, q6, Int.natCast_add], by simp (disch := omega) only [wu64, wu32, wu8, fdiv_nn, EO, ↓EP, EQ, EM, ↓reduceIte, Int.reduceAdd, Int.reduceEq, Int.reduceLE, Int.reduceLT, Int.reduceMul, Int.reduceNeg, Int.reducePow, Int.reduceSub, Int.reduceToNat, Nat.reduceAdd, Nat.reduceEqDiff, Nat.reduceLT, Nat.reduceLeDiff, Nat.reduceMul, reduceCtorEq], by omega, by omega, rfl, by simp; omega, g4, fun he => ?_, fun he => At.first hnext⟩
          have hd0 : (ints u ++ [46]).drop (k + 1) = [] := List.drop_eq_nil_of_le (by simp; omega)
          rw [hd0, arcsGo] at hnext
          exact hnext.symm
      · have h48f : (at' (ints u) (f : Int) = 48) = False := eq_false h48
        simp (disch := omega) only [wu64, wu32, wu8, fdiv_nn, EO, ↓EP, EQ, EM, ↓reduceIte, Int.reduceAdd, Int.reduceEq, Int.reduceLE, Int.reduceLT, Int.reduceMul, Int.reduceNeg, Int.reducePow, Int.reduceSub, Int.reduceToNat, Nat.reduceAdd, Nat.reduceEqDiff, Nat.reduceLT, Nat.reduceLeDiff, Nat.reduceMul, reduceCtorEq, W_join, h6, h5, r0, S_size, ixs_eq, h46, hff, h48f]
        refine loop_inv (fun t ρ2 w2 => w2 = w1 ∧ ∃ k : Nat, ρ2 8 = .int .i64 k ∧ ρ2 7 = .int .i64 (foldv (seg (ints u) f k)) ∧ f ≤ k ∧ k ≤ i ∧ t = i - k) (i - f) ⟨rfl, f, by simp (disch := omega) only [wu64, wu32, wu8, fdiv_nn, EO, ↓EP, EQ, EM, ↓reduceIte, Int.reduceAdd, Int.reduceEq, Int.reduceLE, Int.reduceLT, Int.reduceMul, Int.reduceNeg, Int.reducePow, Int.reduceSub, Int.reduceToNat, Nat.reduceAdd, Nat.reduceEqDiff, Nat.reduceLT, Nat.reduceLeDiff, Nat.reduceMul, reduceCtorEq, h5], by simp (disch := omega) only [wu64, wu32, wu8, fdiv_nn, EO, ↓EP, EQ, EM, ↓reduceIte, Int.reduceAdd, Int.reduceEq, Int.reduceLE, Int.reduceLT, Int.reduceMul, Int.reduceNeg, Int.reducePow, Int.reduceSub, Int.reduceToNat, Nat.reduceAdd, Nat.reduceEqDiff, Nat.reduceLT, Nat.reduceLeDiff, Nat.reduceMul, reduceCtorEq, seg_self]; rfl, by omega, by omega, rfl⟩ ?_
        rintro t ρ2 w2 hf2 ⟨rfl, k, k8, k7, hfk, hki, rfl⟩ N2 hN2
        have q0 : ρ2 0 = .string (S u) := by rw [hf2 0 rfl]; simp (disch := omega) only [wu64, wu32, wu8, fdiv_nn, EO, ↓EP, EQ, EM, ↓reduceIte, Int.reduceAdd, Int.reduceEq, Int.reduceLE, Int.reduceLT, Int.reduceMul, Int.reduceNeg, Int.reducePow, Int.reduceSub, Int.reduceToNat, Nat.reduceAdd, Nat.reduceEqDiff, Nat.reduceLT, Nat.reduceLeDiff, Nat.reduceMul, reduceCtorEq, r0]
        have q4 : ρ2 4 = X := by rw [hf2 4 rfl]; simp (disch := omega) only [wu64, wu32, wu8, fdiv_nn, EO, ↓EP, EQ, EM, ↓reduceIte, Int.reduceAdd, Int.reduceEq, Int.reduceLE, Int.reduceLT, Int.reduceMul, Int.reduceNeg, Int.reducePow, Int.reduceSub, Int.reduceToNat, Nat.reduceAdd, Nat.reduceEqDiff, Nat.reduceLT, Nat.reduceLeDiff, Nat.reduceMul, reduceCtorEq, h4]
        have q6 : ρ2 6 = .int .i64 i := by rw [hf2 6 rfl]; simp (disch := omega) only [wu64, wu32, wu8, fdiv_nn, EO, ↓EP, EQ, EM, ↓reduceIte, Int.reduceAdd, Int.reduceEq, Int.reduceLE, Int.reduceLT, Int.reduceMul, Int.reduceNeg, Int.reducePow, Int.reduceSub, Int.reduceToNat, Nat.reduceAdd, Nat.reduceEqDiff, Nat.reduceLT, Nat.reduceLeDiff, Nat.reduceMul, reduceCtorEq, h6]
        clear hf2
        have vb := foldv_bd (seg (ints u) f k) 0 (fun x hx => hdig x (seg_sub hki hx)) (by omega) (by omega)
        rw [show (seg (ints u) f k).foldl (fun v c => satA (10 * v + (c - 48))) 0 = foldv (seg (ints u) f k) from rfl] at vb
        by_cases hk : (k : Int) < (i : Int)
        · have ck := hdig _ (seg_mem hfk (show k < i by omega) (by omega))
          have hst : foldv (seg (ints u) f (k + 1)) = satA (10 * foldv (seg (ints u) f k) + (at' (ints u) (k : Int) - 48)) := by rw [seg_snoc hfk (by omega), foldv_snoc]
          generalize foldv (seg (ints u) f k) = V at *
          by_cases hcap : 1099511627776 < V * 10 + (at' (ints u) (k : Int) - 48)
          · rw [show satA (10 * V + (at' (ints u) (k : Int) - 48)) = 1099511627776 by unfold satA; split <;> omega] at hst
            simp (disch := omega) only [wu64, wu32, wu8, fdiv_nn, EO, ↓EP, EQ, EM, ↓reduceIte, Int.reduceAdd, Int.reduceEq, Int.reduceLE, Int.reduceLT, Int.reduceMul, Int.reduceNeg, Int.reducePow, Int.reduceSub, Int.reduceToNat, Nat.reduceAdd, Nat.reduceEqDiff, Nat.reduceLT, Nat.reduceLeDiff, Nat.reduceMul, reduceCtorEq, W_join, k8, k7, q0, q6, S_size, ixs_eq]
            exact hN2 (i - (k + 1)) _ _ (by omega) ⟨rfl, k + 1, by simp (disch := omega) only [wu64, wu32, wu8, fdiv_nn, EO, ↓EP, EQ, EM, ↓reduceIte, Int.reduceAdd, Int.reduceEq, Int.reduceLE, Int.reduceLT, Int.reduceMul, Int.reduceNeg, Int.reducePow, Int.reduceSub, Int.reduceToNat, Nat.reduceAdd, Nat.reduceEqDiff, Nat.reduceLT, Nat.reduceLeDiff, Nat.reduceMul, reduceCtorEq, k8, Int.natCast_add], by simp (disch := omega) only [wu64, wu32, wu8, fdiv_nn, EO, ↓EP, EQ, EM, ↓reduceIte, Int.reduceAdd, Int.reduceEq, Int.reduceLE, Int.reduceLT, Int.reduceMul, Int.reduceNeg, Int.reducePow, Int.reduceSub, Int.reduceToNat, Nat.reduceAdd, Nat.reduceEqDiff, Nat.reduceLT, Nat.reduceLeDiff, Nat.reduceMul, reduceCtorEq, hst], by omega, by omega, rfl⟩
          · rw [show satA (10 * V + (at' (ints u) (k : Int) - 48)) = V * 10 + (at' (ints u) (k : Int) - 48) by unfold satA; split <;> omega] at hst
            simp (disch := omega) only [wu64, wu32, wu8, fdiv_nn, EO, ↓EP, EQ, EM, ↓reduceIte, Int.reduceAdd, Int.reduceEq, Int.reduceLE, Int.reduceLT, Int.reduceMul, Int.reduceNeg, Int.reducePow, Int.reduceSub, Int.reduceToNat, Nat.reduceAdd, Nat.reduceEqDiff, Nat.reduceLT, Nat.reduceLeDiff, Nat.reduceMul, reduceCtorEq, W_join, k8, k7, q0, q6, S_size, ixs_eq]
            exact hN2 (i - (k + 1)) _ _ (by omega) ⟨rfl, k + 1, by simp (disch := omega) only [wu64, wu32, wu8, fdiv_nn, EO, ↓EP, EQ, EM, ↓reduceIte, Int.reduceAdd, Int.reduceEq, Int.reduceLE, Int.reduceLT, Int.reduceMul, Int.reduceNeg, Int.reducePow, Int.reduceSub, Int.reduceToNat, Nat.reduceAdd, Nat.reduceEqDiff, Nat.reduceLT, Nat.reduceLeDiff, Nat.reduceMul, reduceCtorEq, k8, Int.natCast_add], by simp (disch := omega) only [wu64, wu32, wu8, fdiv_nn, EO, ↓EP, EQ, EM, ↓reduceIte, Int.reduceAdd, Int.reduceEq, Int.reduceLE, Int.reduceLT, Int.reduceMul, Int.reduceNeg, Int.reducePow, Int.reduceSub, Int.reduceToNat, Nat.reduceAdd, Nat.reduceEqDiff, Nat.reduceLT, Nat.reduceLeDiff, Nat.reduceMul, reduceCtorEq, hst], by omega, by omega, rfl⟩
        · have hke : k = i := by omega
          subst hke
          clear hN2
          simp (disch := omega) only [wu64, wu32, wu8, fdiv_nn, EO, ↓EP, EQ, EM, ↓reduceIte, Int.reduceAdd, Int.reduceEq, Int.reduceLE, Int.reduceLT, Int.reduceMul, Int.reduceNeg, Int.reducePow, Int.reduceSub, Int.reduceToNat, Nat.reduceAdd, Nat.reduceEqDiff, Nat.reduceLT, Nat.reduceLeDiff, Nat.reduceMul, reduceCtorEq, W_join, k8, k7, q0, q4, q6]
          refine bsl1 fun w3 n3 => ?_
          have g3 := g.new n3
          simp (disch := omega) only [wu64, wu32, wu8, fdiv_nn, EO, ↓EP, EQ, EM, ↓reduceIte, Int.reduceAdd, Int.reduceEq, Int.reduceLE, Int.reduceLT, Int.reduceMul, Int.reduceNeg, Int.reducePow, Int.reduceSub, Int.reduceToNat, Nat.reduceAdd, Nat.reduceEqDiff, Nat.reduceLT, Nat.reduceLeDiff, Nat.reduceMul, reduceCtorEq, W_join, k8, k7, q0, q4, q6]
          refine app_num g3.sl rfl n3.rdv (by simp; omega) (by omega) fun v4 w4 a4 => ?_
          have g4 := g3.apd a4
          simp (disch := omega) only [wu64, wu32, wu8, fdiv_nn, EO, ↓EP, EQ, EM, ↓reduceIte, Int.reduceAdd, Int.reduceEq, Int.reduceLE, Int.reduceLT, Int.reduceMul, Int.reduceNeg, Int.reducePow, Int.reduceSub, Int.reduceToNat, Nat.reduceAdd, Nat.reduceEqDiff, Nat.reduceLT, Nat.reduceLeDiff, Nat.reduceMul, reduceCtorEq, W_join, k8, k7, q0, q4, q6]
          refine hN (u.length + 1 - (k + 1)) _ _ (by omega) ⟨k + 1, k + 1, v4, l ++ [foldv (seg (ints u) f k)], by simp (disch := omega) only [wu64, wu32, wu8, fdiv_nn, EO, ↓EP, EQ, EM, ↓reduceIte, Int.reduceAdd, Int.reduceEq, Int.reduceLE, Int.reduceLT, Int.reduceMul, Int.reduceNeg, Int.reducePow, Int.reduceSub, Int.reduceToNat, Nat.reduceAdd, Nat.reduceEqDiff, Nat.reduceLT, Nat.reduceLeDiff, Nat.reduceMul, reduceCtorEq, q6, Int.natCast_add], by simp (disch := omega) only [wu64, wu32, wu8, fdiv_nn, EO, ↓EP, EQ, EM, ↓reduceIte, Int.reduceAdd, Int.reduceEq, Int.reduceLE, Int.reduceLT, Int.reduceMul, Int.reduceNeg, Int.reducePow, Int.reduceSub, Int.reduceToNat, Nat.reduceAdd, Nat.reduceEqDiff, Nat.reduceLT, Nat.reduceLeDiff, Nat.reduceMul, reduceCtorEq, q6, Int.natCast_add], by simp (disch := omega) only [wu64, wu32, wu8, fdiv_nn, EO, ↓EP, EQ, EM, ↓reduceIte, Int.reduceAdd, Int.reduceEq, Int.reduceLE, Int.reduceLT, Int.reduceMul, Int.reduceNeg, Int.reducePow, Int.reduceSub, Int.reduceToNat, Nat.reduceAdd, Nat.reduceEqDiff, Nat.reduceLT, Nat.reduceLeDiff, Nat.reduceMul, reduceCtorEq], by omega, by omega, rfl, by simp; omega, g4, fun he => ?_, fun he => At.first hnext⟩
          have hd0 : (ints u ++ [46]).drop (k + 1) = [] := List.drop_eq_nil_of_le (by simp; omega)
          rw [hd0, arcsGo] at hnext
          exact hnext.symm
      · have hie : i = u.length := by omega
        by_cases hif : i = f
        · have ht := at_.none_ (by omega) hsep (.inl hif)
          subst hif
          simp (disch := omega) only [wu64, wu32, wu8, fdiv_nn, EO, ↓EP, EQ, EM, ↓reduceIte, Int.reduceAdd, Int.reduceEq, Int.reduceLE, Int.reduceLT, Int.reduceMul, Int.reduceNeg, Int.reducePow, Int.reduceSub, Int.reduceToNat, Nat.reduceAdd, Nat.reduceEqDiff, Nat.reduceLT, Nat.reduceLeDiff, Nat.reduceMul, reduceCtorEq, W_join, h6, h5, r0, S_size, ixs_eq]
          exact fail ht w1 g.fr
        have bf := ints_byte u f
        have hff : ((i : Int) = (f : Int)) = False := eq_false (by omega)
        by_cases hz : at' (ints u) (f : Int) = 48 ∧ f + 1 < i
        · have ht := at_.none_ (by omega) hsep (.inr hz)
          simp (disch := omega) only [wu64, wu32, wu8, fdiv_nn, EO, ↓EP, EQ, EM, ↓reduceIte, Int.reduceAdd, Int.reduceEq, Int.reduceLE, Int.reduceLT, Int.reduceMul, Int.reduceNeg, Int.reducePow, Int.reduceSub, Int.reduceToNat, Nat.reduceAdd, Nat.reduceEqDiff, Nat.reduceLT, Nat.reduceLeDiff, Nat.reduceMul, reduceCtorEq, W_join, h6, h5, r0, S_size, ixs_eq, hff, hz.1]
          exact fail ht w1 g.fr
        have hnext := at_.next (by omega) hsep (by omega) hz
        have hdig := at_.dig
        have hz2 : at' (ints u) (f : Int) = 48 → ¬ ((f : Int) + 1 < (i : Int)) := fun h1 h2 => hz ⟨h1, by omega⟩
        have tail : ∀ (ρ' : Env) (N' : Env → World → Prop), True := fun _ _ => trivial
        clear tail
        by_cases h48 : at' (ints u) (f : Int) = 48
        · have hz3 := hz2 h48
          simp (disch := omega) only [wu64, wu32, wu8, fdiv_nn, EO, ↓EP, EQ, EM, ↓reduceIte, Int.reduceAdd, Int.reduceEq, Int.reduceLE, Int.reduceLT, Int.reduceMul, Int.reduceNeg, Int.reducePow, Int.reduceSub, Int.reduceToNat, Nat.reduceAdd, Nat.reduceEqDiff, Nat.reduceLT, Nat.reduceLeDiff, Nat.reduceMul, reduceCtorEq, W_join, h6, h5, r0, S_size, ixs_eq, hff, h48]
          refine loop_inv (fun t ρ2 w2 => w2 = w1 ∧ ∃ k : Nat, ρ2 8 = .int .i64 k ∧ ρ2 7 = .int .i64 (foldv (seg (ints u) f k)) ∧ f ≤ k ∧ k ≤ i ∧ t = i - k) (i - f) ⟨rfl, f, by simp (disch := omega) only [wu64, wu32, wu8, fdiv_nn, EO, ↓EP, EQ, EM, ↓reduceIte, Int.reduceAdd, Int.reduceEq, Int.reduceLE, Int.reduceLT, Int.reduceMul, Int.reduceNeg, Int.reducePow, Int.reduceSub, Int.reduceToNat, Nat.reduceAdd, Nat.reduceEqDiff, Nat.reduceLT, Nat.reduceLeDiff, Nat.reduceMul, reduceCtorEq, h5], by simp (disch := omega) only [wu64, wu32, wu8, fdiv_nn, EO, ↓EP, EQ, EM, ↓reduceIte, Int.reduceAdd, Int.reduceEq, Int.reduceLE, Int.reduceLT, Int.reduceMul, Int.reduceNeg, Int.reducePow, Int.reduceSub, Int.reduceToNat, Nat.reduceAdd, Nat.reduceEqDiff, Nat.reduceLT, Nat.reduceLeDiff, Nat.reduceMul, reduceCtorEq, seg_self]; rfl, by omega, by omega, rfl⟩ ?_
          rintro t ρ2 w2 hf2 ⟨rfl, k, k8, k7, hfk, hki, rfl⟩ N2 hN2
          have q0 : ρ2 0 = .string (S u) := by rw [hf2 0 rfl]; simp (disch := omega) only [wu64, wu32, wu8, fdiv_nn, EO, ↓EP, EQ, EM, ↓reduceIte, Int.reduceAdd, Int.reduceEq, Int.reduceLE, Int.reduceLT, Int.reduceMul, Int.reduceNeg, Int.reducePow, Int.reduceSub, Int.reduceToNat, Nat.reduceAdd, Nat.reduceEqDiff, Nat.reduceLT, Nat.reduceLeDiff, Nat.reduceMul, reduceCtorEq, r0]
          have q4 : ρ2 4 = X := by rw [hf2 4 rfl]; simp (disch := omega) only [wu64, wu32, wu8, fdiv_nn, EO, ↓EP, EQ, EM, ↓reduceIte, Int.reduceAdd, Int.reduceEq, Int.reduceLE, Int.reduceLT, Int.reduceMul, Int.reduceNeg, Int.reducePow, Int.reduceSub, Int.reduceToNat, Nat.reduceAdd, Nat.reduceEqDiff, Nat.reduceLT, Nat.reduceLeDiff, Nat.reduceMul, reduceCtorEq, h4]
          have q6 : ρ2 6 = .int .i64 i := by rw [hf2 6 rfl]; simp (disch := omega) only [wu64, wu32, wu8, fdiv_nn, EO, ↓EP, EQ, EM, ↓reduceIte, Int.reduceAdd, Int.reduceEq, Int.reduceLE, Int.reduceLT, Int.reduceMul, Int.reduceNeg, Int.reducePow, Int.reduceSub, Int.reduceToNat, Nat.reduceAdd, Nat.reduceEqDiff, Nat.reduceLT, Nat.reduceLeDiff, Nat.reduceMul, reduceCtorEq, h6]
          clear hf2
          have vb := foldv_bd (seg (ints u) f k) 0 (fun x hx => hdig x (seg_sub hki hx)) (by omega) (by omega)
          rw [show (seg (ints u) f k).foldl (fun v c => satA (10 * v + (c - 48))) 0 = foldv (seg (ints u) f k) from rfl] at vb
          by_cases hk : (k : Int) < (i : Int)
          · have ck := hdig _ (seg_mem hfk (show k < i by omega) (by omega))
            have hst : foldv (seg (ints u) f (k + 1)) = satA (10 * foldv (seg (ints u) f k) + (at' (ints u) (k : Int) - 48)) := by rw [seg_snoc hfk (by omega), foldv_snoc]
            generalize foldv (seg (ints u) f k) = V at *
            by_cases hcap : 1099511627776 < V * 10 + (at' (ints u) (k : Int) - 48)
            · rw [show satA (10 * V + (at' (ints u) (k : Int) - 48)) = 1099511627776 by unfold satA; split <;> omega] at hst
              simp (disch := omega) only [wu64, wu32, wu8, fdiv_nn, EO, ↓EP, EQ, EM, ↓reduceIte, Int.reduceAdd, Int.reduceEq, Int.reduceLE, Int.reduceLT, Int.reduceMul, Int.reduceNeg, Int.reducePow, Int.reduceSub, Int.reduceToNat, Nat.reduceAdd, Nat.reduceEqDiff, Nat.reduceLT, Nat.reduceLeDiff, Nat.reduceMul, reduceCtorEq, W_join, k8, k7, q0, q6, S_size, ixs_eq]
              exact hN2 (i - (k + 1)) _ _ (by omega) ⟨rfl, k + 1, by simp (disch := omega) only [wu64, wu32, wu8, fdiv_nn, EO, ↓EP, EQ, EM, ↓reduceIte, Int.reduceAdd, Int.reduceEq, Int.reduceLE, Int.reduceLT, Int.reduceMul, Int.reduceNeg, Int.reducePow, Int.reduceSub, Int.reduceToNat, Nat.reduceAdd, Nat.reduceEqDiff, Nat.reduceLT, Nat.reduceLeDiff, Nat.reduceMul, reduceCtorEq, k8, Int.natCast_add], by simp (disch := omega) only [wu64, wu32, wu8, fdiv_nn, EO, ↓EP, EQ, EM, ↓reduceIte, Int.reduceAdd, Int.reduceEq, Int.reduceLE, Int.reduceLT, Int.reduceMul, Int.reduceNeg, Int.reducePow, Int.reduceSub, Int.reduceToNat, Nat.reduceAdd, Nat.reduceEqDiff, Nat.reduceLT, Nat.reduceLeDiff, Nat.reduceMul, reduceCtorEq, hst], by omega, by omega, rfl⟩
            · rw [show satA (10 * V + (at' (ints u) (k : Int) - 48)) = V * 10 + (at' (ints u) (k : Int) - 48) by unfold satA; split <;> omega] at hst
              simp (disch := omega) only [wu64, wu32, wu8, fdiv_nn, EO, ↓EP, EQ, EM, ↓reduceIte, Int.reduceAdd, Int.reduceEq, Int.reduceLE, Int.reduceLT, Int.reduceMul, Int.reduceNeg, Int.reducePow, Int.reduceSub, Int.reduceToNat, Nat.reduceAdd, Nat.reduceEqDiff, Nat.reduceLT, Nat.reduceLeDiff, Nat.reduceMul, reduceCtorEq, W_join, k8, k7, q0, q6, S_size, ixs_eq]
              exact hN2 (i - (k + 1)) _ _ (by omega) ⟨rfl, k + 1, by simp (disch := omega) only [wu64, wu32, wu8, fdiv_nn, EO, ↓EP, EQ, EM, ↓reduceIte, Int.reduceAdd, Int.reduceEq, Int.reduceLE, Int.reduceLT, Int.reduceMul, Int.reduceNeg, Int.reducePow, Int.reduceSub, Int.reduceToNat, Nat.reduceAdd, Nat.reduceEqDiff, Nat.reduceLT, Nat.reduceLeDiff, Nat.reduceMul, reduceCtorEq, k8, Int.natCast_add], by simp (disch := omega) only [wu64, wu32, wu8, fdiv_nn, EO, ↓EP, EQ, EM, ↓reduceIte, Int.reduceAdd, Int.reduceEq, Int.reduceLE, Int.reduceLT, Int.reduceMul, Int.reduceNeg, Int.reducePow, Int.reduceSub, Int.reduceToNat, Nat.reduceAdd, Nat.reduceEqDiff, Nat.reduceLT, Nat.reduceLeDiff, Nat.reduceMul, reduceCtorEq, hst], by omega, by omega, rfl⟩
          · have hke : k = i := by omega
            subst hke
            clear hN2
            simp (disch := omega) only [wu64, wu32, wu8, fdiv_nn, EO, ↓EP, EQ, EM, ↓reduceIte, Int.reduceAdd, Int.reduceEq, Int.reduceLE, Int.reduceLT, Int.reduceMul, Int.reduceNeg, Int.reducePow, Int.reduceSub, Int.reduceToNat, Nat.reduceAdd, Nat.reduceEqDiff, Nat.reduceLT, Nat.reduceLeDiff, Nat.reduceMul, reduceCtorEq, W_join, k8, k7, q0, q4, q6]
            refine bsl1 fun w3 n3 => ?_
            have g3 := g.new n3
            simp (disch := omega) only [wu64, wu32, wu8, fdiv_nn, EO, ↓EP, EQ, EM, ↓reduceIte, Int.reduceAdd, Int.reduceEq, Int.reduceLE, Int.reduceLT, Int.reduceMul, Int.reduceNeg, Int.reducePow, Int.reduceSub, Int.reduceToNat, Nat.reduceAdd, Nat.reduceEqDiff, Nat.reduceLT, Nat.reduceLeDiff, Nat.reduceMul, reduceCtorEq, W_join, k8, k7, q0, q4, q6]
            refine app_num g3.sl rfl n3.rdv (by simp; omega) (by omega) fun v4 w4 a4 => ?_
            have g4 := g3.apd a4
            simp (disch := omega) only [wu64, wu32, wu8, fdiv_nn, EO, ↓EP, EQ, EM, ↓reduceIte, Int.reduceAdd, Int.reduceEq, Int.reduceLE, Int.reduceLT, Int.reduceMul, Int.reduceNeg, Int.reducePow, Int.reduceSub, Int.reduceToNat, Nat.reduceAdd, Nat.reduceEqDiff, Nat.reduceLT, Nat.reduceLeDiff, Nat.reduceMul, reduceCtorEq, W_join, k8, k7, q0, q4, q6]
            refine hN (u.length + 1 - (k + 1)) _ _ (by omega) ⟨k + 1, k + 1, v4, l ++ [foldv (seg (ints u) f k)], by simp (disch := omega) only [wu64, wu32, wu8, fdiv_nn, EO, ↓EP, EQ, EM, ↓reduceIte, Int.reduceAdd, Int.reduceEq, Int.reduceLE, Int.reduceLT, Int.reduceMul, Int.reduceNeg, Int.reducePow, Int.reduceSub, Int.reduceToNat, Nat.reduceAdd, Nat.reduceEqDiff, Nat.reduceLT, Nat.reduceLeDiff, Nat.reduceMul, reduceCtorEq, q6, Int.natCast_add], by simp (disch := omega) only [wu64, wu32, wu8, fdiv_nn, EO, ↓EP, EQ, EM, ↓reduceIte, Int.reduceAdd, Int.reduceEq, Int.reduceLE, Int.reduceLT, Int.reduceMul, Int.reduceNeg, Int.reducePow, Int.reduceSub, Int.reduceToNat, Nat.reduceAdd, Nat.reduceEqDiff, Nat.reduceLT, Nat.reduceLeDiff, Nat.reduceMul, reduceCtorEq, q6, Int.natCast_add], by simp (disch := omega) only [wu64, wu32, wu8, fdiv_nn, EO, ↓EP, EQ, EM, ↓reduceIte, Int.reduceAdd, Int.reduceEq, Int.reduceLE, Int.reduceLT, Int.reduceMul, Int.reduceNeg, Int.reducePow, Int.reduceSub, Int.reduceToNat, Nat.reduceAdd, Nat.reduceEqDiff, Nat.reduceLT, Nat.reduceLeDiff, Nat.reduceMul, reduceCtorEq], by omega, by omega, rfl, by simp; omega, g4, fun he => ?_, fun he => At.first hnext⟩
            have hd0 : (ints u ++ [46]).drop (k + 1) = [] := List.drop_eq_nil_of_le (by simp; omega)
            rw [hd0, arcsGo] at hnext
            exact hnext.symm
        · have h48f : (at' (ints u) (f : Int) = 48) = False := eq_false h48
          simp (disch := omega) only [wu64, wu32, wu8, fdiv_nn, EO, ↓EP, EQ, EM, ↓reduceIte, Int.reduceAdd, Int.reduceEq, Int.reduceLE, Int.reduceLT, Int.reduceMul, Int.reduceNeg, Int.reducePow, Int.reduceSub, Int.reduceToNat, Nat.reduceAdd, Nat.reduceEqDiff, Nat.reduceLT, Nat.reduceLeDiff, Nat.reduceMul, reduceCtorEq, W_join, h6, h5, r0, S_size, ixs_eq, hff, h48f]
          refine loop_inv (fun t ρ2 w2 => w2 = w1 ∧ ∃ k : Nat, ρ2 8 = .int .i64 k ∧ ρ2 7 = .int .i64 (foldv (seg (ints u) f k)) ∧ f ≤ k ∧ k ≤ i ∧ t = i - k) (i - f) ⟨rfl, f, by simp (disch := omega) only [wu64, wu32, wu8, fdiv_nn, EO, ↓EP, EQ, EM, ↓reduceIte, Int.reduceAdd, Int.reduceEq, Int.reduceLE, Int.reduceLT, Int.reduceMul, Int.reduceNeg, Int.reducePow, Int.reduceSub, Int.reduceToNat, Nat.reduceAdd, Nat.reduceEqDiff, Nat.reduceLT, Nat.reduceLeDiff, Nat.reduceMul, reduceCtorEq, h5], by simp (disch := omega) only [wu64, wu32, wu8, fdiv_nn, EO, ↓EP, EQ, EM, ↓reduceIte, Int.reduceAdd, Int.reduceEq, Int.reduceLE, Int.reduceLT, Int.reduceMul, Int.reduceNeg, Int.reducePow, Int.reduceSub, Int.reduceToNat, Nat.reduceAdd, Nat.reduceEqDiff, Nat.reduceLT, Nat.reduceLeDiff, Nat.reduceMul, reduceCtorEq, seg_self]; rfl, by omega, by omega, rfl⟩ ?_
          rintro t ρ2 w2 hf2 ⟨rfl, k, k8, k7, hfk, hki, rfl⟩ N2 hN2
          have q0 : ρ2 0 = .string (S u) := by rw [hf2 0 rfl]; simp (disch := omega) only [wu64, wu32, wu8, fdiv_nn, EO, ↓EP, EQ, EM, ↓reduceIte, Int.reduceAdd, Int.reduceEq, Int.reduceLE, Int.reduceLT, Int.reduceMul, Int.reduceNeg, Int.reducePow, Int.reduceSub, Int.reduceToNat, Nat.reduceAdd, Nat.reduceEqDiff, Nat.reduceLT, Nat.reduceLeDiff, Nat.reduceMul, reduceCtorEq, r0]
          have q4 : ρ2 4 = X := by rw [hf2 4 rfl]; simp (disch := omega) only [wu64, wu32, wu8, fdiv_nn, EO, ↓EP, EQ, EM, ↓reduceIte, Int.reduceAdd, Int.reduceEq, Int.reduceLE, Int.reduceLT, Int.reduceMul, Int.reduceNeg, Int.reducePow, Int.reduceSub, Int.reduceToNat, Nat.reduceAdd, Nat.reduceEqDiff, Nat.reduceLT, Nat.reduceLeDiff, Nat.reduceMul, reduceCtorEq, h4]
          have q6 : ρ2 6 = .int .i64 i := by rw [hf2 6 rfl]; simp (disch := omega) only [wu64, wu32, wu8, fdiv_nn, EO, ↓EP, EQ, EM, ↓reduceIte, Int.reduceAdd, Int.reduceEq, Int.reduceLE, Int.reduceLT, Int.reduceMul, Int.reduceNeg, Int.reducePow, Int.reduceSub, Int.reduceToNat, Nat.reduceAdd, Nat.reduceEqDiff, Nat.reduceLT, Nat.reduceLeDiff, Nat.reduceMul, reduceCtorEq, h6]
          clear hf2
          have vb := foldv_bd (seg (ints u) f k) 0 (fun x hx => hdig x (seg_sub hki hx)) (by omega) (by omega)
          rw [show (seg (ints u) f k).foldl (fun v c => satA (10 * v + (c - 48))) 0 = foldv (seg (ints u) f k) from rfl] at vb
          by_cases hk : (k : Int) < (i : Int)
          · have ck := hdig _ (seg_mem hfk (show k < i by omega) (by omega))
            have hst : foldv (seg (ints u) f (k + 1)) = satA (10 * foldv (seg (ints u) f k) + (at' (ints u) (k : Int) - 48)) := by rw [seg_snoc hfk (by omega), foldv_snoc]
            generalize foldv (seg (ints u) f k) = V at *
            by_cases hcap : 1099511627776 < V * 10 + (at' (ints u) (k : Int) - 48)
            · rw [show satA (10 * V + (at' (ints u) (k : Int) - 48)) = 1099511627776 by unfold satA; split <;> omega] at hst
              simp (disch := omega) only [wu64, wu32, wu8, fdiv_nn, EO, ↓EP, EQ, EM, ↓reduceIte, Int.reduceAdd, Int.reduceEq, Int.reduceLE, Int.reduceLT, Int.reduceMul, Int.reduceNeg, Int.reducePow, Int.reduceSub, Int.reduceToNat, Nat.reduceAdd, Nat.reduceEqDiff, Nat.reduceLT, Nat.reduceLeDiff, Nat.reduceMul, reduceCtorEq, W_join, k8, k7, q0, q6, S_size, ixs_eq]
              exact hN2 (i - (k + 1)) _ _ (by omega) ⟨rfl, k + 1, by simp (disch := omega) only [wu64, wu32, wu8, fdiv_nn, EO, ↓EP, EQ, EM, ↓reduceIte, Int.reduceAdd, Int.reduceEq, Int.reduceLE, Int.reduceLT, Int.reduceMul, Int.reduceNeg, Int.reducePow, Int.reduceSub, Int.reduceToNat, Nat.reduceAdd, Nat.reduceEqDiff, Nat.reduceLT, Nat.reduceLeDiff, Nat.reduceMul, reduceCtorEq, k8, Int.natCast_add], by simp (disch := omega) only [wu64, wu32, wu8, fdiv_nn, EO, ↓EP, EQ, EM, ↓reduceIte, Int.reduceAdd, Int.reduceEq, Int.reduceLE, Int.reduceLT, Int.reduceMul, Int.reduceNeg, Int.reducePow, Int.reduceSub, Int.reduceToNat, Nat.reduceAdd, Nat.reduceEqDiff, Nat.reduceLT, Nat.reduceLeDiff, Nat.reduceMul, reduceCtorEq, hst], by omega, by omega, rfl⟩
            · rw [show satA (10 * V + (at' (ints u) (k : Int) - 48)) = V * 10 + (at' (ints u) (k : Int) - 48) by unfold satA; split <;> omega] at hst
              simp (disch := omega) only [wu64, wu32, wu8, fdiv_nn, EO, ↓EP, EQ, EM, ↓reduceIte, Int.reduceAdd, Int.reduceEq, Int.reduceLE, Int.reduceLT, Int.reduceMul, Int.reduceNeg, Int.reducePow, Int.reduceSub, Int.reduceToNat, Nat.reduceAdd, Nat.reduceEqDiff, Nat.reduceLT, Nat.reduceLeDiff, Nat.reduceMul, reduceCtorEq, W_join, k8, k7, q0, q6, S_size, ixs_eq]
              exact hN2 (i - (k + 1)) _ _ (by omega) ⟨rfl, k + 1, by simp (disch := omega) only [wu64, wu32, wu8, fdiv_nn, EO, ↓EP, EQ, EM, ↓reduceIte, Int.reduceAdd, Int.reduceEq, Int.reduceLE, Int.reduceLT, Int.reduceMul, Int.reduceNeg, Int.reducePow, Int.reduceSub, Int.reduceToNat, Nat.reduceAdd, Nat.reduceEqDiff, Nat.reduceLT, Nat.reduceLeDiff, Nat.reduceMul, reduceCtorEq, k8, Int.natCast_add], by simp (disch := omega) only [wu64, wu32, wu8, fdiv_nn, EO, ↓EP, EQ, EM, ↓reduceIte, Int.reduceAdd, Int.reduceEq, Int.reduceLE, Int.reduceLT, Int.reduceMul, Int.reduceNeg, Int.reducePow, Int.reduceSub, Int.reduceToNat, Nat.reduceAdd, Nat.reduceEqDiff, Nat.reduceLT, Nat.reduceLeDiff, Nat.reduceMul, reduceCtorEq, hst], by omega, by omega, rfl⟩
          · have hke : k = i := by omega
            subst hke
            clear hN2
            simp (disch := omega) only [wu64, wu32, wu8, fdiv_nn, EO, ↓EP, EQ, EM, ↓reduceIte, Int.reduceAdd, Int.reduceEq, Int.reduceLE, Int.reduceLT, Int.reduceMul, Int.reduceNeg, Int.reducePow, Int.reduceSub, Int.reduceToNat, Nat.reduceAdd, Nat.reduceEqDiff, Nat.reduceLT, Nat.reduceLeDiff, Nat.reduceMul, reduceCtorEq, W_join, k8, k7, q0, q4, q6]
            refine bsl1 fun w3 n3 => ?_
            have g3 := g.new n3
            simp (disch := omega) only [wu64, wu32, wu8, fdiv_nn, EO, ↓EP, EQ, EM, ↓reduceIte, Int.reduceAdd, Int.reduceEq, Int.reduceLE, Int.reduceLT, Int.reduceMul, Int.reduceNeg, Int.reducePow, Int.reduceSub, Int.reduceToNat, Nat.reduceAdd, Nat.reduceEqDiff, Nat.reduceLT, Nat.reduceLeDiff, Nat.reduceMul, reduceCtorEq, W_join, k8, k7, q0, q4, q6]
            refine app_num g3.sl rfl n3.rdv (by simp; omega) (by omega) fun v4 w4 a4 => ?_
            have g4 := g3.apd a4
            simp (disch := omega) only [wu64, wu32, wu8, fdiv_nn, EO, ↓EP, EQ, EM, ↓reduceIte, Int.reduceAdd, Int.reduceEq, Int.reduceLE, Int.reduceLT, Int.reduceMul, Int.reduceNeg, Int.reducePow, Int.reduceSub, Int.reduceToNat, Nat.reduceAdd, Nat.reduceEqDiff, Nat.reduceLT, Nat.reduceLeDiff, Nat.reduceMul, reduceCtorEq, W_join, k8, k7, q0, q4, q6]
            refine hN (u.length + 1 - (k + 1)) _ _ (by omega) ⟨k + 1, k + 1, v4, l ++ [foldv (seg (ints u) f k)], by simp (disch := omega) only [wu64, wu32, wu8, fdiv_nn, EO, ↓EP, EQ, EM, ↓reduceIte, Int.reduceAdd, Int.reduceEq, Int.reduceLE, Int.reduceLT, Int.reduceMul, Int.reduceNeg, Int.reducePow, Int.reduceSub, Int.reduceToNat, Nat.reduceAdd, Nat.reduceEqDiff, Nat.reduceLT, Nat.reduceLeDiff, Nat.reduceMul, reduceCtorEq, q6, Int.natCast_add], by simp (disch := omega) only [wu64, wu32, wu8, fdiv_nn, EO, ↓EP, EQ, EM, ↓reduceIte, Int.reduceAdd, Int.reduceEq, Int.reduceLE, Int.reduceLT, Int.reduceMul, Int.reduceNeg, Int.reducePow, Int.reduceSub, Int.reduceToNat, Nat.reduceAdd, Nat.reduceEqDiff, Nat.reduceLT, Nat.reduceLeDiff, Nat.reduceMul, reduceCtorEq, q6, Int.natCast_add], by simp (disch := omega) only [wu64, wu32, wu8, fdiv_nn, EO, ↓EP, EQ, EM, ↓reduceIte, Int.reduceAdd, Int.reduceEq, Int.reduceLE, Int.reduceLT, Int.reduceMul, Int.reduceNeg, Int.reducePow, Int.reduceSub, Int.reduceToNat, Nat.reduceAdd, Nat.reduceEqDiff, Nat.reduceLT, Nat.reduceLeDiff, Nat.reduceMul, reduceCtorEq], by omega, by omega, rfl, by simp; omega, g4, fun he => ?_, fun he => At.first hnext⟩
            have hd0 : (ints u ++ [46]).drop (k + 1) = [] := List.drop_eq_nil_of_le (by simp; omega)
            rw [hd0, arcsGo] at hnext
            exact hnext.symm
  · have hie : i = u.length + 1 := by omega
    have ht := hend hie
    have hr := hR l ht
    clear hN hat hend
    obtain ⟨XA, xc, rfl, hxc, hXr⟩ := readn g.sl rfl
    have no : (l.length < 2 ∨ 2 < at' l 0 ∨ (at' l 0 < 2 ∧ 40 ≤ at' l 1)) → ∀ w2, Fr w1 w2 nob → K (prb (.slice XA l.length xc) false) w2 := fun h w2 f2 => by
      rw [if_pos h] at hr
      have := hK (.slice XA l.length xc) w2 (g.fr.nb f2) (fun q hq => by rw [hr] at hq; simp at hq)
      rwa [hr] at this
    have yes : ¬ (l.length < 2 ∨ 2 < at' l 0 ∨ (at' l 0 < 2 ∧ 40 ≤ at' l 1)) → ∀ w2, Fr w1 w2 nob → K (prb (.slice XA l.length xc) true) w2 := fun h w2 f2 => by
      rw [if_neg h] at hr
      have := hK (.slice XA l.length xc) w2 (g.fr.nb f2) (fun q hq => by rw [hr] at hq; simp only [Option.some.injEq] at hq; subst hq; exact g.step f2)
      rwa [hr] at this
    by_cases hl2 : l.length < 2
    · simp (disch := omega) only [wu64, wu32, wu8, fdiv_nn, EO, ↓EP, EQ, EM, ↓reduceIte, Int.reduceAdd, Int.reduceEq, Int.reduceLE, Int.reduceLT, Int.reduceMul, Int.reduceNeg, Int.reducePow, Int.reduceSub, Int.reduceToNat, Nat.reduceAdd, Nat.reduceEqDiff, Nat.reduceLT, Nat.reduceLeDiff, Nat.reduceMul, reduceCtorEq, h6, h4, r0, S_size]
      intro m
      exact no (.inl hl2) _ (Fr.drewN w1 _ nob)
    obtain ⟨xa, rfl, cell⟩ := pos_cellsK hXr (by omega)
    have c0 := cell 0 (by omega)
    have c1 := cell 1 (by omega)
    rw [show ((0 : Nat) : Int) = 0 by rfl] at c0
    rw [show ((1 : Nat) : Int) = 1 by rfl] at c1
    by_cases h2 : 2 < at' l 0
    · simp (disch := omega) only [wu64, wu32, wu8, fdiv_nn, EO, ↓EP, EQ, EM, ↓reduceIte, Int.reduceAdd, Int.reduceEq, Int.reduceLE, Int.reduceLT, Int.reduceMul, Int.reduceNeg, Int.reducePow, Int.reduceSub, Int.reduceToNat, Nat.reduceAdd, Nat.reduceEqDiff, Nat.reduceLT, Nat.reduceLeDiff, Nat.reduceMul, reduceCtorEq, h6, h4, r0, S_size, c0, c1]
      intro m
      exact no (.inr (.inl h2)) _ (Fr.drewN w1 _ nob)
    by_cases h3 : at' l 0 = 2
    · rw [h3] at c0
      simp (disch := omega) only [wu64, wu32, wu8, fdiv_nn, EO, ↓EP, EQ, EM, ↓reduceIte, Int.reduceAdd, Int.reduceEq, Int.reduceLE, Int.reduceLT, Int.reduceMul, Int.reduceNeg, Int.reducePow, Int.reduceSub, Int.reduceToNat, Nat.reduceAdd, Nat.reduceEqDiff, Nat.reduceLT, Nat.reduceLeDiff, Nat.reduceMul, reduceCtorEq, h6, h4, r0, S_size, c0, c1]
      intro m
      exact yes (fun h => by rcases h with h | h | h; exact hl2 h; exact h2 h; omega) _ (Fr.drewN w1 _ nob)
    · have h3f : (at' l 0 = 2) = False := eq_false h3
      by_cases h40 : 40 ≤ at' l 1
      · simp (disch := omega) only [wu64, wu32, wu8, fdiv_nn, EO, ↓EP, EQ, EM, ↓reduceIte, Int.reduceAdd, Int.reduceEq, Int.reduceLE, Int.reduceLT, Int.reduceMul, Int.reduceNeg, Int.reducePow, Int.reduceSub, Int.reduceToNat, Nat.reduceAdd, Nat.reduceEqDiff, Nat.reduceLT, Nat.reduceLeDiff, Nat.reduceMul, reduceCtorEq, h6, h4, r0, S_size, c0, c1, h3f]
        intro m
        exact no (.inr (.inr ⟨by omega, h40⟩)) _ (Fr.drewN w1 _ nob)
      · simp (disch := omega) only [wu64, wu32, wu8, fdiv_nn, EO, ↓EP, EQ, EM, ↓reduceIte, Int.reduceAdd, Int.reduceEq, Int.reduceLE, Int.reduceLT, Int.reduceMul, Int.reduceNeg, Int.reducePow, Int.reduceSub, Int.reduceToNat, Nat.reduceAdd, Nat.reduceEqDiff, Nat.reduceLT, Nat.reduceLeDiff, Nat.reduceMul, reduceCtorEq, h6, h4, r0, S_size, c0, c1, h3f]
        intro m
        exact yes (fun h => by rcases h with h | h | h; exact hl2 h; exact h2 h; exact h40 h.2) _ (Fr.drewN w1 _ nob)
end Go.Proofs.YtcflokckfjkdpaaDoor.Der
