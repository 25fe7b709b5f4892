/- Rows of elements: tags and lengths, walked. -/
import Derived.Test.YtcflokckfjkdpaaDoorDp1
import Derived.Test.YtcflokckfjkdpaaDoorCodes4
set_option linter.unusedVariables false
set_option linter.unusedSimpArgs false
namespace Go.Proofs.YtcflokckfjkdpaaDoor.Der
open Go Go.RowKit Go.Proofs Go.Proofs.YtcflokckfjkdpaaDoor.Eng Go.Proofs.YtcflokckfjkdpaaDoor.Code
set_option maxRecDepth 100000
attribute [local irreducible] callK S.W opsW scrW scrT

theorem slc_of {k : IntKind} {w : World} {v : Value} {l : List Int} (h : Vw k w v l) : ∃ A c, v = .slice A l.length c ∧ l.length ≤ c ∧ Rd w A (nums k l) := h
theorem i64_or7' {n c : Int} (hn : 0 ≤ n) (hn' : n < 1000000000000) (hc : 0 ≤ c) (hc' : c < 128) : bits .or .i64 (n * 128) c = n * 128 + c := by
  have := i64_or7 (n := n) hc hc'
  rwa [w64 (by omega) (by omega), w64 (by omega) (by omega)] at this
theorem i64_or8' {n c : Int} (hn : 0 ≤ n) (hn' : n < 1000000000000) (hc : 0 ≤ c) (hc' : c < 256) : bits .or .i64 (n * 256) c = n * 256 + c := by
  have := i64_or8 (n := n) hc hc'
  rwa [w64 (by omega) (by omega), w64 (by omega) (by omega)] at this
def tup4 (r : Int × Nat × Int × Nat) : Value := .tuple #[.int .i64 r.1, .int .i64 r.2.1, .int .i64 r.2.2.1, .int .i64 r.2.2.2]

set_option maxHeartbeats 1000000 in
theorem tag_vw {w : World} {v : Value} {b : List Int} {p : Nat} (hv : Vw .u8 w v b) (hb : ByteL b) (hp : p < b.length) (hm : b.length ≤ 16777216) (K : Value → World → Prop)
    (hK : K (tup4 (tagR b p)) w) : callK Tryd.prog 52 [v, .int .i64 p] w K := by
  obtain ⟨A, c, rfl, hc, hr⟩ := hv
  refine call_of Tryd.func52 Code.h52 (by simp [Code.c52]) ?_
  obtain ⟨ad, rfl, _, hcl⟩ := hr.get (by rw [nums_length]; omega)
  have cell : ∀ i : Nat, i < b.length → w.cell? (ad.add i) = some (.int .u8 (at' b (i : Int))) := fun i hi => hcl.numN hi
  have c0 := cell p hp
  have b0 := hb p
  have e31 := d8_and31 b0
  unfold tagR at hK
  by_cases h31 : at' b (p : Int) % 32 = 31
  · rw [if_pos h31] at hK
    simp (disch := omega) only [wu64, wu32, wu8, fdiv_nn, EO, ↓EP, EQ, EM, ↓reduceIte, Int.reduceAdd, Int.reduceEq, Int.reduceLE, Int.reduceLT, Int.reduceMul, Int.reduceNeg, Int.reducePow, Int.reduceSub, Int.reduceToNat, Nat.reduceAdd, Nat.reduceEqDiff, Nat.reduceLT, Nat.reduceLeDiff, Nat.reduceMul, reduceCtorEq, Code.c52, c0, e31, h31]
    refine loop_inv (fun t ρ w' => w' = w ∧ ∃ (i : Nat) (n : Int), ρ 5 = .int .i64 i ∧ ρ 4 = .int .i64 n ∧ p + 1 ≤ i ∧ i ≤ b.length ∧ t = b.length - i ∧ 0 ≤ n ∧ n ≤ 268435455 ∧ tagGo (b.drop i) (decide (i = p + 1)) n i = tagGo (b.drop (p + 1)) true 0 (p + 1)) _ ⟨rfl, p + 1, 0, by simp (disch := omega) only [wu64, wu32, wu8, fdiv_nn, EO, ↓EP, EQ, EM, ↓reduceIte, Int.reduceAdd, Int.reduceEq, Int.reduceLE, Int.reduceLT, Int.reduceMul, Int.reduceNeg, Int.reducePow, Int.reduceSub, Int.reduceToNat, Nat.reduceAdd, Nat.reduceEqDiff, Nat.reduceLT, Nat.reduceLeDiff, Nat.reduceMul, reduceCtorEq, Int.natCast_add], by simp (disch := omega) only [wu64, wu32, wu8, fdiv_nn, EO, ↓EP, EQ, EM, ↓reduceIte, Int.reduceAdd, Int.reduceEq, Int.reduceLE, Int.reduceLT, Int.reduceMul, Int.reduceNeg, Int.reducePow, Int.reduceSub, Int.reduceToNat, Nat.reduceAdd, Nat.reduceEqDiff, Nat.reduceLT, Nat.reduceLeDiff, Nat.reduceMul, reduceCtorEq], by omega, by omega, rfl, by omega, by omega, by rw [decide_eq_true rfl]⟩ ?_
    rintro t ρ w' hf ⟨rfl, i, n, h5, h4, hi, hi', rfl, hn, hn', hgo⟩ N hN
    have r0 : ρ 0 = .slice (some ad) b.length c := by rw [hf 0 rfl]; simp (disch := omega) only [wu64, wu32, wu8, fdiv_nn, EO, ↓EP, EQ, EM, ↓reduceIte, Int.reduceAdd, Int.reduceEq, Int.reduceLE, Int.reduceLT, Int.reduceMul, Int.reduceNeg, Int.reducePow, Int.reduceSub, Int.reduceToNat, Nat.reduceAdd, Nat.reduceEqDiff, Nat.reduceLT, Nat.reduceLeDiff, Nat.reduceMul, reduceCtorEq]
    have r1 : ρ 1 = .int .i64 p := by rw [hf 1 rfl]; simp (disch := omega) only [wu64, wu32, wu8, fdiv_nn, EO, ↓EP, EQ, EM, ↓reduceIte, Int.reduceAdd, Int.reduceEq, Int.reduceLE, Int.reduceLT, Int.reduceMul, Int.reduceNeg, Int.reducePow, Int.reduceSub, Int.reduceToNat, Nat.reduceAdd, Nat.reduceEqDiff, Nat.reduceLT, Nat.reduceLeDiff, Nat.reduceMul, reduceCtorEq]
    clear hf
    rw [← hgo] at hK
    by_cases hil : (i : Int) < (b.length : Int)
    · have ci := cell i (by omega)
      have bi := hb i
      have e127 := d8_and127 bi
      rw [drop_at (show i < b.length by omega), tagGo] at hK
      have hnx : tagGo (b.drop (i + 1)) (decide (i + 1 = p + 1)) (n * 128 + at' b (i : Int) % 128) (i + 1) = tagGo (b.drop (i + 1)) false (n * 128 + at' b (i : Int) % 128) (i + 1) := by
        rw [decide_eq_false (show ¬ i + 1 = p + 1 by omega)]
      have hgo' : ¬ ((decide (i = p + 1) = true ∧ at' b (i : Int) = 128) ∨ 268435455 < n * 128 + at' b (i : Int) % 128 ∨ (at' b (i : Int) < 128 ∧ n * 128 + at' b (i : Int) % 128 < 31)) → ¬ at' b (i : Int) < 128 → tagGo (b.drop (i + 1)) (decide (i + 1 = p + 1)) (n * 128 + at' b (i : Int) % 128) (i + 1) = tagGo (b.drop (p + 1)) true 0 (p + 1) := fun h1 h2 => by
        rw [hnx, ← hgo, drop_at (show i < b.length by omega), tagGo, if_neg h1, if_neg h2]
      have hor := i64_or7' (n := n) (c := at' b (i : Int) % 128) hn (by omega) (by omega) (by omega)
      have hip : ((i : Int) = (p : Int) + 1) = (i = p + 1) := propext ⟨fun h => by omega, fun h => by omega⟩
      by_cases hA : i = p + 1
      · by_cases hB : at' b (i : Int) = 128
        · rw [if_pos (.inl ⟨decide_eq_true hA, hB⟩)] at hK
          simp (disch := omega) only [wu64, wu32, wu8, fdiv_nn, EO, ↓EP, EQ, EM, ↓reduceIte, Int.reduceAdd, Int.reduceEq, Int.reduceLE, Int.reduceLT, Int.reduceMul, Int.reduceNeg, Int.reducePow, Int.reduceSub, Int.reduceToNat, Nat.reduceAdd, Nat.reduceEqDiff, Nat.reduceLT, Nat.reduceLeDiff, Nat.reduceMul, reduceCtorEq, W_join, h4, h5, r0, r1, ci, e127, hor]
          exact hK
        · clear hgo hnx
          by_cases hC : 268435455 < n * 128 + at' b (i : Int) % 128
          · rw [if_pos (.inr (.inl hC))] at hK
            simp (disch := omega) only [wu64, wu32, wu8, fdiv_nn, EO, ↓EP, EQ, EM, ↓reduceIte, Int.reduceAdd, Int.reduceEq, Int.reduceLE, Int.reduceLT, Int.reduceMul, Int.reduceNeg, Int.reducePow, Int.reduceSub, Int.reduceToNat, Nat.reduceAdd, Nat.reduceEqDiff, Nat.reduceLT, Nat.reduceLeDiff, Nat.reduceMul, reduceCtorEq, W_join, h4, h5, r0, r1, ci, e127, hor]
            exact hK
          · by_cases hD : at' b (i : Int) < 128
            · by_cases hE : n * 128 + at' b (i : Int) % 128 < 31
              · rw [if_pos (.inr (.inr ⟨hD, hE⟩))] at hK
                simp (disch := omega) only [wu64, wu32, wu8, fdiv_nn, EO, ↓EP, EQ, EM, ↓reduceIte, Int.reduceAdd, Int.reduceEq, Int.reduceLE, Int.reduceLT, Int.reduceMul, Int.reduceNeg, Int.reducePow, Int.reduceSub, Int.reduceToNat, Nat.reduceAdd, Nat.reduceEqDiff, Nat.reduceLT, Nat.reduceLeDiff, Nat.reduceMul, reduceCtorEq, W_join, h4, h5, r0, r1, ci, e127, hor]
                exact hK
              · rw [if_neg (fun h => by rcases h with h | h | h; exact hB h.2; exact hC h; exact hE h.2), if_pos hD] at hK
                simp (disch := omega) only [wu64, wu32, wu8, fdiv_nn, EO, ↓EP, EQ, EM, ↓reduceIte, Int.reduceAdd, Int.reduceEq, Int.reduceLE, Int.reduceLT, Int.reduceMul, Int.reduceNeg, Int.reducePow, Int.reduceSub, Int.reduceToNat, Nat.reduceAdd, Nat.reduceEqDiff, Nat.reduceLT, Nat.reduceLeDiff, Nat.reduceMul, reduceCtorEq, W_join, h4, h5, r0, r1, ci, e127, hor]
                exact hK
            · have hno : ¬ ((decide (i = p + 1) = true ∧ at' b (i : Int) = 128) ∨ 268435455 < n * 128 + at' b (i : Int) % 128 ∨ (at' b (i : Int) < 128 ∧ n * 128 + at' b (i : Int) % 128 < 31)) := fun h => by rcases h with h | h | h; exact hB h.2; exact hC h; exact hD h.1
              simp (disch := omega) only [wu64, wu32, wu8, fdiv_nn, EO, ↓EP, EQ, EM, ↓reduceIte, Int.reduceAdd, Int.reduceEq, Int.reduceLE, Int.reduceLT, Int.reduceMul, Int.reduceNeg, Int.reducePow, Int.reduceSub, Int.reduceToNat, Nat.reduceAdd, Nat.reduceEqDiff, Nat.reduceLT, Nat.reduceLeDiff, Nat.reduceMul, reduceCtorEq, W_join, h4, h5, r0, r1, ci, e127, hor]
              exact hN (b.length - (i + 1)) _ _ (by omega) ⟨rfl, i + 1, n * 128 + at' b (i : Int) % 128, by simp (disch := omega) only [wu64, wu32, wu8, fdiv_nn, EO, ↓EP, EQ, EM, ↓reduceIte, Int.reduceAdd, Int.reduceEq, Int.reduceLE, Int.reduceLT, Int.reduceMul, Int.reduceNeg, Int.reducePow, Int.reduceSub, Int.reduceToNat, Nat.reduceAdd, Nat.reduceEqDiff, Nat.reduceLT, Nat.reduceLeDiff, Nat.reduceMul, reduceCtorEq, h5, Int.natCast_add], by simp (disch := omega) only [wu64, wu32, wu8, fdiv_nn, EO, ↓EP, EQ, EM, ↓reduceIte, Int.reduceAdd, Int.reduceEq, Int.reduceLE, Int.reduceLT, Int.reduceMul, Int.reduceNeg, Int.reducePow, Int.reduceSub, Int.reduceToNat, Nat.reduceAdd, Nat.reduceEqDiff, Nat.reduceLT, Nat.reduceLeDiff, Nat.reduceMul, reduceCtorEq], by omega, by omega, rfl, by omega, by omega, hgo' hno hD⟩
      · clear hgo hnx
        by_cases hC : 268435455 < n * 128 + at' b (i : Int) % 128
        · rw [if_pos (.inr (.inl hC))] at hK
          simp (disch := omega) only [wu64, wu32, wu8, fdiv_nn, EO, ↓EP, EQ, EM, ↓reduceIte, Int.reduceAdd, Int.reduceEq, Int.reduceLE, Int.reduceLT, Int.reduceMul, Int.reduceNeg, Int.reducePow, Int.reduceSub, Int.reduceToNat, Nat.reduceAdd, Nat.reduceEqDiff, Nat.reduceLT, Nat.reduceLeDiff, Nat.reduceMul, reduceCtorEq, W_join, h4, h5, r0, r1, ci, e127, hor]
          exact hK
        · by_cases hD : at' b (i : Int) < 128
          · by_cases hE : n * 128 + at' b (i : Int) % 128 < 31
            · rw [if_pos (.inr (.inr ⟨hD, hE⟩))] at hK
              simp (disch := omega) only [wu64, wu32, wu8, fdiv_nn, EO, ↓EP, EQ, EM, ↓reduceIte, Int.reduceAdd, Int.reduceEq, Int.reduceLE, Int.reduceLT, Int.reduceMul, Int.reduceNeg, Int.reducePow, Int.reduceSub, Int.reduceToNat, Nat.reduceAdd, Nat.reduceEqDiff, Nat.reduceLT, Nat.reduceLeDiff, Nat.reduceMul, reduceCtorEq, W_join, h4, h5, r0, r1, ci, e127, hor]
              exact hK
            · rw [if_neg (fun h => by rcases h with h | h | h; exact hA (of_decide_eq_true h.1); exact hC h; exact hE h.2), if_pos hD] at hK
              simp (disch := omega) only [wu64, wu32, wu8, fdiv_nn, EO, ↓EP, EQ, EM, ↓reduceIte, Int.reduceAdd, Int.reduceEq, Int.reduceLE, Int.reduceLT, Int.reduceMul, Int.reduceNeg, Int.reducePow, Int.reduceSub, Int.reduceToNat, Nat.reduceAdd, Nat.reduceEqDiff, Nat.reduceLT, Nat.reduceLeDiff, Nat.reduceMul, reduceCtorEq, W_join, h4, h5, r0, r1, ci, e127, hor]
              exact hK
          · have hno : ¬ ((decide (i = p + 1) = true ∧ at' b (i : Int) = 128) ∨ 268435455 < n * 128 + at' b (i : Int) % 128 ∨ (at' b (i : Int) < 128 ∧ n * 128 + at' b (i : Int) % 128 < 31)) := fun h => by rcases h with h | h | h; exact hA (of_decide_eq_true h.1); exact hC h; exact hD h.1
            simp (disch := omega) only [wu64, wu32, wu8, fdiv_nn, EO, ↓EP, EQ, EM, ↓reduceIte, Int.reduceAdd, Int.reduceEq, Int.reduceLE, Int.reduceLT, Int.reduceMul, Int.reduceNeg, Int.reducePow, Int.reduceSub, Int.reduceToNat, Nat.reduceAdd, Nat.reduceEqDiff, Nat.reduceLT, Nat.reduceLeDiff, Nat.reduceMul, reduceCtorEq, W_join, h4, h5, r0, r1, ci, e127, hor]
            exact hN (b.length - (i + 1)) _ _ (by omega) ⟨rfl, i + 1, n * 128 + at' b (i : Int) % 128, by simp (disch := omega) only [wu64, wu32, wu8, fdiv_nn, EO, ↓EP, EQ, EM, ↓reduceIte, Int.reduceAdd, Int.reduceEq, Int.reduceLE, Int.reduceLT, Int.reduceMul, Int.reduceNeg, Int.reducePow, Int.reduceSub, Int.reduceToNat, Nat.reduceAdd, Nat.reduceEqDiff, Nat.reduceLT, Nat.reduceLeDiff, Nat.reduceMul, reduceCtorEq, h5, Int.natCast_add], by simp (disch := omega) only [wu64, wu32, wu8, fdiv_nn, EO, ↓EP, EQ, EM, ↓reduceIte, Int.reduceAdd, Int.reduceEq, Int.reduceLE, Int.reduceLT, Int.reduceMul, Int.reduceNeg, Int.reducePow, Int.reduceSub, Int.reduceToNat, Nat.reduceAdd, Nat.reduceEqDiff, Nat.reduceLT, Nat.reduceLeDiff, Nat.reduceMul, reduceCtorEq], by omega, by omega, rfl, by omega, by omega, hgo' hno hD⟩
    · have hil' : i = b.length := by omega
      subst hil'
      rw [List.drop_length, tagGo] at hK
      simp (disch := omega) only [wu64, wu32, wu8, fdiv_nn, EO, ↓EP, EQ, EM, ↓reduceIte, Int.reduceAdd, Int.reduceEq, Int.reduceLE, Int.reduceLT, Int.reduceMul, Int.reduceNeg, Int.reducePow, Int.reduceSub, Int.reduceToNat, Nat.reduceAdd, Nat.reduceEqDiff, Nat.reduceLT, Nat.reduceLeDiff, Nat.reduceMul, reduceCtorEq, W_join, h4, h5, r0, r1]
      exact hK
  · rw [if_neg h31] at hK
    by_cases h0 : at' b (p : Int) % 32 = 0
    · by_cases h6 : at' b (p : Int) < 64
      · rw [if_pos ⟨h0, h6⟩] at hK
        have e6 : at' b (p : Int) / 64 = 0 := by omega
        simp (disch := omega) only [wu64, wu32, wu8, fdiv_nn, EO, ↓EP, EQ, EM, ↓reduceIte, Int.reduceAdd, Int.reduceEq, Int.reduceLE, Int.reduceLT, Int.reduceMul, Int.reduceNeg, Int.reducePow, Int.reduceSub, Int.reduceToNat, Nat.reduceAdd, Nat.reduceEqDiff, Nat.reduceLT, Nat.reduceLeDiff, Nat.reduceMul, reduceCtorEq, Code.c52, c0, e31, h0, e6]
        exact hK
      · rw [if_neg (fun h => h6 h.2)] at hK
        simp (disch := omega) only [wu64, wu32, wu8, fdiv_nn, EO, ↓EP, EQ, EM, ↓reduceIte, Int.reduceAdd, Int.reduceEq, Int.reduceLE, Int.reduceLT, Int.reduceMul, Int.reduceNeg, Int.reducePow, Int.reduceSub, Int.reduceToNat, Nat.reduceAdd, Nat.reduceEqDiff, Nat.reduceLT, Nat.reduceLeDiff, Nat.reduceMul, reduceCtorEq, Code.c52, c0, e31, h0]
        rw [h0] at hK
        exact hK
    · rw [if_neg (fun h => h0 h.1)] at hK
      simp (disch := omega) only [wu64, wu32, wu8, fdiv_nn, EO, ↓EP, EQ, EM, ↓reduceIte, Int.reduceAdd, Int.reduceEq, Int.reduceLE, Int.reduceLT, Int.reduceMul, Int.reduceNeg, Int.reducePow, Int.reduceSub, Int.reduceToNat, Nat.reduceAdd, Nat.reduceEqDiff, Nat.reduceLT, Nat.reduceLeDiff, Nat.reduceMul, reduceCtorEq, Code.c52, c0, e31]
      exact hK
theorem fold_snoc (l : List Int) (c : Int) : lenFold (l ++ [c]) = sat (lenFold l * 256 + c) := by simp [lenFold]
theorem fold_bd {l : List Int} (h : ∀ x ∈ l, 0 ≤ x ∧ x < 256) : 0 ≤ lenFold l ∧ lenFold l ≤ 16777217 := by
  have : ∀ (l : List Int) (n : Int), (∀ x ∈ l, 0 ≤ x ∧ x < 256) → 0 ≤ n → n ≤ 16777217 → 0 ≤ l.foldl (fun n c => sat (n * 256 + c)) n ∧ l.foldl (fun n c => sat (n * 256 + c)) n ≤ 16777217 := by
    intro l
    induction l with
    | nil => intro n _ h1 h2; exact ⟨h1, h2⟩
    | cons x r ih =>
      intro n hl h1 h2
      have hx := hl x (by simp)
      have hs : 0 ≤ sat (n * 256 + x) ∧ sat (n * 256 + x) ≤ 16777217 := by unfold sat; split <;> omega
      exact ih _ (fun y hy => hl y (by simp [hy])) hs.1 hs.2
  exact this l 0 h (by omega) (by omega)
theorem byteL_mem {l : List Int} (h : ByteL l) : ∀ x ∈ l, 0 ≤ x ∧ x < 256 := by
  intro x hx
  obtain ⟨i, hi⟩ := List.getElem?_of_mem hx
  have := h i
  rw [atN, List.getD_eq_getElem?_getD, hi] at this
  exact this
theorem take_snoc {l : List Int} {j : Nat} (h : j < l.length) : l.take (j + 1) = l.take j ++ [at' l (j : Int)] := by
  rw [List.take_add_one, List.getElem?_eq_getElem h, atN, List.getD_eq_getElem?_getD, List.getElem?_eq_getElem h]; rfl
theorem and_i64_127 : ∀ a : Nat, a < 256 → bits .and .i64 (a : Int) 127 = (a : Int) % 128 := by decide +kernel
theorem i64_and127 {a : Int} (h : 0 ≤ a ∧ a < 256) : bits .and .i64 a 127 = a % 128 := by
  obtain ⟨a, rfl⟩ := Int.eq_ofNat_of_zero_le h.1; exact and_i64_127 a (by omega)
/-- Cells behind a place. -/
theorem sub_cells {w : World} {A : Option Addr} {l : List Int} {c lo : Nat} (h : Rd w A (nums .u8 l)) (hc : l.length ≤ c) (hl : lo < l.length) :
    ∃ ad, subA A c lo 1 = some ad ∧ ∀ j : Nat, lo + j < l.length → w.cell? (ad.add j) = some (.int .u8 (at' l ((lo + j : Nat) : Int))) := by
  obtain ⟨ad, e, _, hcl⟩ := (h.subA c lo hc).get (by simp [nums_length]; omega)
  exact ⟨ad, e, fun j hj => by rw [hcl.numN (j := j) (by simp; omega), at_drop]⟩
set_option maxHeartbeats 1000000 in
theorem length_vw {w : World} {v : Value} {b : List Int} {i : Nat} (hv : Vw .u8 w v b) (hb : ByteL b) (hi : i ≤ b.length) (hm : b.length ≤ 16777216) (K : Value → World → Prop)
    (hK : K (tup4 (lenR b i)) w) : callK Tryd.prog 53 [v, .int .i64 i] w K := by
  obtain ⟨A, c, rfl, hc, hr⟩ := hv
  refine call_of Tryd.func53 Code.h53 (by simp [Code.c53]) ?_
  unfold lenR at hK
  by_cases hil : (i : Int) = (b.length : Int)
  · rw [if_pos (by omega)] at hK
    simp (disch := omega) only [wu64, wu32, wu8, fdiv_nn, EO, ↓EP, EQ, EM, ↓reduceIte, Int.reduceAdd, Int.reduceEq, Int.reduceLE, Int.reduceLT, Int.reduceMul, Int.reduceNeg, Int.reducePow, Int.reduceSub, Int.reduceToNat, Nat.reduceAdd, Nat.reduceEqDiff, Nat.reduceLT, Nat.reduceLeDiff, Nat.reduceMul, reduceCtorEq, Code.c53, hil]
    exact hK
  rw [if_neg (by omega)] at hK
  obtain ⟨ad, e, _, hcl⟩ := hr.get (by rw [nums_length]; omega)
  subst e
  have cell : ∀ i : Nat, i < b.length → w.cell? (ad.add i) = some (.int .u8 (at' b (i : Int))) := fun i hi => hcl.numN hi
  have ci := cell i (by omega)
  have bi := hb i
  by_cases h128 : at' b (i : Int) < 128
  · rw [if_pos h128] at hK
    have e2 : ((b.length - (i + 1) : Nat) : Int) = (b.length : Int) - ((i : Int) + 1) := by omega
    rw [e2] at hK
    by_cases hn : (b.length : Int) - ((i : Int) + 1) < at' b (i : Int)
    · rw [if_pos hn] at hK
      simp (disch := omega) only [wu64, wu32, wu8, fdiv_nn, EO, ↓EP, EQ, EM, ↓reduceIte, Int.reduceAdd, Int.reduceEq, Int.reduceLE, Int.reduceLT, Int.reduceMul, Int.reduceNeg, Int.reducePow, Int.reduceSub, Int.reduceToNat, Nat.reduceAdd, Nat.reduceEqDiff, Nat.reduceLT, Nat.reduceLeDiff, Nat.reduceMul, reduceCtorEq, Code.c53, W_join, ci]
      exact hK
    · rw [if_neg hn] at hK
      simp (disch := omega) only [wu64, wu32, wu8, fdiv_nn, EO, ↓EP, EQ, EM, ↓reduceIte, Int.reduceAdd, Int.reduceEq, Int.reduceLE, Int.reduceLT, Int.reduceMul, Int.reduceNeg, Int.reducePow, Int.reduceSub, Int.reduceToNat, Nat.reduceAdd, Nat.reduceEqDiff, Nat.reduceLT, Nat.reduceLeDiff, Nat.reduceMul, reduceCtorEq, Code.c53, W_join, ci]
      exact hK
  rw [if_neg h128] at hK
  have e127 := i64_and127 bi
  by_cases hq : at' b (i : Int) = 128 ∨ at' b (i : Int) = 255
  · rw [if_pos hq] at hK
    rcases hq with hq | hq
    · have e0 : at' b (i : Int) % 128 = 0 := by omega
      simp (disch := omega) only [wu64, wu32, wu8, fdiv_nn, EO, ↓EP, EQ, EM, ↓reduceIte, Int.reduceAdd, Int.reduceEq, Int.reduceLE, Int.reduceLT, Int.reduceMul, Int.reduceNeg, Int.reducePow, Int.reduceSub, Int.reduceToNat, Nat.reduceAdd, Nat.reduceEqDiff, Nat.reduceLT, Nat.reduceLeDiff, Nat.reduceMul, reduceCtorEq, Code.c53, W_join, ci, e127, e0]
      exact hK
    · have e0 : at' b (i : Int) % 128 = 127 := by omega
      simp (disch := omega) only [wu64, wu32, wu8, fdiv_nn, EO, ↓EP, EQ, EM, ↓reduceIte, Int.reduceAdd, Int.reduceEq, Int.reduceLE, Int.reduceLT, Int.reduceMul, Int.reduceNeg, Int.reducePow, Int.reduceSub, Int.reduceToNat, Nat.reduceAdd, Nat.reduceEqDiff, Nat.reduceLT, Nat.reduceLeDiff, Nat.reduceMul, reduceCtorEq, Code.c53, W_join, ci, e127, e0]
      exact hK
  rw [if_neg hq] at hK
  obtain ⟨k, hk⟩ : ∃ k : Nat, at' b (i : Int) = 128 + (k : Int) := ⟨(at' b (i : Int) - 128).toNat, by omega⟩
  have ek : at' b (i : Int) % 128 = (k : Int) := by omega
  have ek' : (at' b (i : Int) - 128).toNat = k := by omega
  rw [ek'] at hK
  have hk1 : 0 < k := by omega
  by_cases hs : b.length < i + 1 + k
  · rw [if_pos hs] at hK
    simp (disch := omega) only [wu64, wu32, wu8, fdiv_nn, EO, ↓EP, EQ, EM, ↓reduceIte, Int.reduceAdd, Int.reduceEq, Int.reduceLE, Int.reduceLT, Int.reduceMul, Int.reduceNeg, Int.reducePow, Int.reduceSub, Int.reduceToNat, Nat.reduceAdd, Nat.reduceEqDiff, Nat.reduceLT, Nat.reduceLeDiff, Nat.reduceMul, reduceCtorEq, Code.c53, W_join, ci, e127, ek]
    exact hK
  rw [if_neg hs] at hK
  obtain ⟨ad2, e2, cell2⟩ := sub_cells hr hc (lo := i + 1) (by omega)
  have elo : ((i : Int) + 1).toNat = i + 1 := by omega
  have eln : ((i : Int) + 1 + (k : Int)).toNat - (i + 1) = k := by omega
  simp (disch := omega) only [wu64, wu32, wu8, fdiv_nn, EO, ↓EP, EQ, EM, ↓reduceIte, Int.reduceAdd, Int.reduceEq, Int.reduceLE, Int.reduceLT, Int.reduceMul, Int.reduceNeg, Int.reducePow, Int.reduceSub, Int.reduceToNat, Nat.reduceAdd, Nat.reduceEqDiff, Nat.reduceLT, Nat.reduceLeDiff, Nat.reduceMul, reduceCtorEq, Code.c53, W_join, ci, e127, ek, elo, e2, eln]
  generalize hq2 : (b.drop (i + 1)).take k = q at hK
  have hqm : ∀ x ∈ q, 0 ≤ x ∧ x < 256 := fun x hx => byteL_mem hb x (by rw [← hq2] at hx; exact List.mem_of_mem_drop (List.mem_of_mem_take hx))
  have hql : q.length = k := by rw [← hq2]; simp; omega
  have qat : ∀ j : Nat, j < k → at' q (j : Int) = at' b ((i + 1 + j : Nat) : Int) := fun j hj => by rw [← hq2, at_take hj, at_drop]
  refine loop_inv (fun t ρ w' => w' = w ∧ ∃ j : Nat, ρ 49 = .int .i64 j ∧ j ≤ k ∧ t = k - j ∧ ρ 4 = .int .i64 (lenFold (q.take j))) k ⟨rfl, 0, by simp (disch := omega) only [wu64, wu32, wu8, fdiv_nn, EO, ↓EP, EQ, EM, ↓reduceIte, Int.reduceAdd, Int.reduceEq, Int.reduceLE, Int.reduceLT, Int.reduceMul, Int.reduceNeg, Int.reducePow, Int.reduceSub, Int.reduceToNat, Nat.reduceAdd, Nat.reduceEqDiff, Nat.reduceLT, Nat.reduceLeDiff, Nat.reduceMul, reduceCtorEq], by omega, by omega, by simp (disch := omega) only [wu64, wu32, wu8, fdiv_nn, EO, ↓EP, EQ, EM, ↓reduceIte, Int.reduceAdd, Int.reduceEq, Int.reduceLE, Int.reduceLT, Int.reduceMul, Int.reduceNeg, Int.reducePow, Int.reduceSub, Int.reduceToNat, Nat.reduceAdd, Nat.reduceEqDiff, Nat.reduceLT, Nat.reduceLeDiff, Nat.reduceMul, reduceCtorEq]; rfl⟩ ?_
  rintro t ρ w' hf ⟨rfl, j, h49, hj, rfl, h4⟩ N hN
  have r0 : ρ 0 = .slice (some ad) b.length c := by rw [hf 0 rfl]; simp (disch := omega) only [wu64, wu32, wu8, fdiv_nn, EO, ↓EP, EQ, EM, ↓reduceIte, Int.reduceAdd, Int.reduceEq, Int.reduceLE, Int.reduceLT, Int.reduceMul, Int.reduceNeg, Int.reducePow, Int.reduceSub, Int.reduceToNat, Nat.reduceAdd, Nat.reduceEqDiff, Nat.reduceLT, Nat.reduceLeDiff, Nat.reduceMul, reduceCtorEq]
  have r1 : ρ 1 = .int .i64 i := by rw [hf 1 rfl]; simp (disch := omega) only [wu64, wu32, wu8, fdiv_nn, EO, ↓EP, EQ, EM, ↓reduceIte, Int.reduceAdd, Int.reduceEq, Int.reduceLE, Int.reduceLT, Int.reduceMul, Int.reduceNeg, Int.reducePow, Int.reduceSub, Int.reduceToNat, Nat.reduceAdd, Nat.reduceEqDiff, Nat.reduceLT, Nat.reduceLeDiff, Nat.reduceMul, reduceCtorEq]
  have r5 : ρ 5 = .int .i64 ((i : Int) + 1) := by rw [hf 5 rfl]; simp (disch := omega) only [wu64, wu32, wu8, fdiv_nn, EO, ↓EP, EQ, EM, ↓reduceIte, Int.reduceAdd, Int.reduceEq, Int.reduceLE, Int.reduceLT, Int.reduceMul, Int.reduceNeg, Int.reducePow, Int.reduceSub, Int.reduceToNat, Nat.reduceAdd, Nat.reduceEqDiff, Nat.reduceLT, Nat.reduceLeDiff, Nat.reduceMul, reduceCtorEq]
  have r8 : ρ 8 = .int .i64 k := by rw [hf 8 rfl]; simp (disch := omega) only [wu64, wu32, wu8, fdiv_nn, EO, ↓EP, EQ, EM, ↓reduceIte, Int.reduceAdd, Int.reduceEq, Int.reduceLE, Int.reduceLT, Int.reduceMul, Int.reduceNeg, Int.reducePow, Int.reduceSub, Int.reduceToNat, Nat.reduceAdd, Nat.reduceEqDiff, Nat.reduceLT, Nat.reduceLeDiff, Nat.reduceMul, reduceCtorEq, e127, ek]
  have r47 : ∃ c2, ρ 47 = .slice (some ad2) k c2 := by
    refine ⟨c - (i + 1), ?_⟩
    rw [hf 47 rfl]; simp (disch := omega) only [wu64, wu32, wu8, fdiv_nn, EO, ↓EP, EQ, EM, ↓reduceIte, Int.reduceAdd, Int.reduceEq, Int.reduceLE, Int.reduceLT, Int.reduceMul, Int.reduceNeg, Int.reducePow, Int.reduceSub, Int.reduceToNat, Nat.reduceAdd, Nat.reduceEqDiff, Nat.reduceLT, Nat.reduceLeDiff, Nat.reduceMul, reduceCtorEq, elo, e2, eln]
  obtain ⟨c2, r47⟩ := r47
  have r48 : ρ 48 = .int .i64 k := by rw [hf 48 rfl]; simp (disch := omega) only [wu64, wu32, wu8, fdiv_nn, EO, ↓EP, EQ, EM, ↓reduceIte, Int.reduceAdd, Int.reduceEq, Int.reduceLE, Int.reduceLT, Int.reduceMul, Int.reduceNeg, Int.reducePow, Int.reduceSub, Int.reduceToNat, Nat.reduceAdd, Nat.reduceEqDiff, Nat.reduceLT, Nat.reduceLeDiff, Nat.reduceMul, reduceCtorEq, eln]
  clear hf
  by_cases hjk : (j : Int) < (k : Int)
  · have cj := cell2 j (by omega)
    rw [← qat j (by omega)] at cj
    have bj := hqm (at' q (j : Int)) (by
      rw [atN, List.getD_eq_getElem?_getD, List.getElem?_eq_getElem (by omega)]
      exact List.getElem_mem _)
    have hfb := fold_bd (l := q.take j) (fun x hx => hqm x (List.mem_of_mem_take hx))
    have hor := i64_or8' (n := lenFold (q.take j)) (c := at' q (j : Int)) hfb.1 (by omega) bj.1 bj.2
    have hst : lenFold (q.take (j + 1)) = if 16777217 < lenFold (q.take j) * 256 + at' q (j : Int) then 16777217 else lenFold (q.take j) * 256 + at' q (j : Int) := by
      rw [take_snoc (by omega), fold_snoc]; rfl
    simp (disch := omega) only [wu64, wu32, wu8, fdiv_nn, EO, ↓EP, EQ, EM, ↓reduceIte, Int.reduceAdd, Int.reduceEq, Int.reduceLE, Int.reduceLT, Int.reduceMul, Int.reduceNeg, Int.reducePow, Int.reduceSub, Int.reduceToNat, Nat.reduceAdd, Nat.reduceEqDiff, Nat.reduceLT, Nat.reduceLeDiff, Nat.reduceMul, reduceCtorEq, h49, h4, r47, r48, cj, hor]
    exact hN (k - (j + 1)) _ _ (by omega) ⟨rfl, j + 1, by simp (disch := omega) only [wu64, wu32, wu8, fdiv_nn, EO, ↓EP, EQ, EM, ↓reduceIte, Int.reduceAdd, Int.reduceEq, Int.reduceLE, Int.reduceLT, Int.reduceMul, Int.reduceNeg, Int.reducePow, Int.reduceSub, Int.reduceToNat, Nat.reduceAdd, Nat.reduceEqDiff, Nat.reduceLT, Nat.reduceLeDiff, Nat.reduceMul, reduceCtorEq, h49, Int.natCast_add], by omega, by omega, by simp (disch := omega) only [wu64, wu32, wu8, fdiv_nn, EO, ↓EP, EQ, EM, ↓reduceIte, Int.reduceAdd, Int.reduceEq, Int.reduceLE, Int.reduceLT, Int.reduceMul, Int.reduceNeg, Int.reducePow, Int.reduceSub, Int.reduceToNat, Nat.reduceAdd, Nat.reduceEqDiff, Nat.reduceLT, Nat.reduceLeDiff, Nat.reduceMul, reduceCtorEq, hst]⟩
  · have hjk' : j = k := by omega
    subst hjk'
    clear hN
    rw [List.take_of_length_le (by omega)] at h4
    have hfb := fold_bd hqm
    have c1 := cell (i + 1) (by omega)
    have eb : ((b.length - (i + 1 + j) : Nat) : Int) = (b.length : Int) - ((i : Int) + 1 + (j : Int)) := by omega
    rw [eb] at hK
    by_cases hz : at' b ((i + 1 : Nat) : Int) = 0
    · rw [if_pos (.inr hz)] at hK
      rw [hz] at c1
      simp (disch := omega) only [wu64, wu32, wu8, fdiv_nn, EO, ↓EP, EQ, EM, ↓reduceIte, Int.reduceAdd, Int.reduceEq, Int.reduceLE, Int.reduceLT, Int.reduceMul, Int.reduceNeg, Int.reducePow, Int.reduceSub, Int.reduceToNat, Nat.reduceAdd, Nat.reduceEqDiff, Nat.reduceLT, Nat.reduceLeDiff, Nat.reduceMul, reduceCtorEq, W_join, h49, h4, r0, r1, r5, r8, r48, elo, c1]
      exact hK
    by_cases hf128 : lenFold q < 128
    · rw [if_pos (.inl hf128)] at hK
      have b1 := hb (i + 1)
      simp (disch := omega) only [wu64, wu32, wu8, fdiv_nn, EO, ↓EP, EQ, EM, ↓reduceIte, Int.reduceAdd, Int.reduceEq, Int.reduceLE, Int.reduceLT, Int.reduceMul, Int.reduceNeg, Int.reducePow, Int.reduceSub, Int.reduceToNat, Nat.reduceAdd, Nat.reduceEqDiff, Nat.reduceLT, Nat.reduceLeDiff, Nat.reduceMul, reduceCtorEq, W_join, h49, h4, r0, r1, r5, r8, r48, elo, c1]
      exact hK
    rw [if_neg (fun h => by rcases h with h | h; exact hf128 h; exact hz h)] at hK
    have b1 := hb (i + 1)
    by_cases hlast : (b.length : Int) - ((i : Int) + 1 + (j : Int)) < lenFold q
    · rw [if_pos hlast] at hK
      simp (disch := omega) only [wu64, wu32, wu8, fdiv_nn, EO, ↓EP, EQ, EM, ↓reduceIte, Int.reduceAdd, Int.reduceEq, Int.reduceLE, Int.reduceLT, Int.reduceMul, Int.reduceNeg, Int.reducePow, Int.reduceSub, Int.reduceToNat, Nat.reduceAdd, Nat.reduceEqDiff, Nat.reduceLT, Nat.reduceLeDiff, Nat.reduceMul, reduceCtorEq, W_join, h49, h4, r0, r1, r5, r8, r48, elo, c1]
      exact hK
    · rw [if_neg hlast] at hK
      simp (disch := omega) only [wu64, wu32, wu8, fdiv_nn, EO, ↓EP, EQ, EM, ↓reduceIte, Int.reduceAdd, Int.reduceEq, Int.reduceLE, Int.reduceLT, Int.reduceMul, Int.reduceNeg, Int.reducePow, Int.reduceSub, Int.reduceToNat, Nat.reduceAdd, Nat.reduceEqDiff, Nat.reduceLT, Nat.reduceLeDiff, Nat.reduceMul, reduceCtorEq, W_join, h49, h4, r0, r1, r5, r8, r48, elo, c1]
      exact hK
end Go.Proofs.YtcflokckfjkdpaaDoor.Der
