/- Object identifiers: bytes as a text, walked. -/
import Derived.Test.YtcflokckfjkdpaaDoorDt6
set_option linter.unusedVariables false
set_option linter.unusedSimpArgs false
namespace Go.Proofs.YtcflokckfjkdpaaDoor.Der
open Go Go.RowKit Go.Proofs Go.Proofs.YtcflokckfjkdpaaDoor.Eng Go.Proofs.YtcflokckfjkdpaaDoor.Code
set_option maxRecDepth 100000
attribute [local irreducible] callK S.W opsW scrW scrT

theorem eqE (s : List UInt8) : ((S s).toList == (⟨#[]⟩ : ByteArray).toList) = decide (s = []) := by
  rw [S_toList, ← S_nil, S_toList]
  cases s <;> rfl
theorem dot_add (x : List UInt8) : (⟨#[46]⟩ : ByteArray) ++ S x = S (46 :: x) := by rw [← S_dot, S_append]; rfl
theorem dot_size : (⟨#[46]⟩ : ByteArray).size = 1 := rfl
theorem satA_bd {v : Int} (h : 0 ≤ v) : 0 ≤ satA v ∧ satA v ≤ 1099511627776 := by unfold satA; split <;> omega
theorem u64_or7' {n c : Int} (hn : 0 ≤ n) (hn' : n < 1000000000000000) (hc : 0 ≤ c) (hc' : c < 128) : bits .or .u64 (n * 128) c = n * 128 + c := by
  exact u64_or7 (n := n) hn (by omega) hc hc'
def prs (r : List UInt8 × Int) : Value := .tuple #[.string (S r.1), .int .i64 r.2]
set_option maxHeartbeats 2000000 in
theorem oid_vw {w : World} {v : Value} {d : List Int} (hv : Vw .u8 w v d) (hb : ByteL d) (hT : TbP w) (hm : d.length ≤ 1073741824) (K : Value → World → Prop)
    (hK : ∀ w', Fr w w' nob → K (prs (oidR d)) w') : callK Tryd.prog 21 [v] w K := by
  obtain ⟨A, c, rfl, hc, hr⟩ := hv
  refine call_of Tryd.func21 Code.h21 (by simp [Code.c21]) ?_
  unfold oidR at hK
  by_cases h0 : d.length = 0
  · rw [if_pos (.inl h0)] at hK
    simp (disch := omega) only [wu64, wu32, wu8, fdiv_nn, EO, ↓EP, EQ, EM, ↓reduceIte, Int.reduceAdd, Int.reduceEq, Int.reduceLE, Int.reduceLT, Int.reduceMul, Int.reduceNeg, Int.reducePow, Int.reduceSub, Int.reduceToNat, Nat.reduceAdd, Nat.reduceEqDiff, Nat.reduceLT, Nat.reduceLeDiff, Nat.reduceMul, reduceCtorEq, Code.c21, h0, Int.natCast_zero]
    exact hK w (Fr.refl _ _)
  obtain ⟨ad, rfl, cell⟩ := pos_cells hr (by omega)
  have cl := cell (d.length - 1) (by omega)
  have bl := hb (d.length - 1)
  have el : ((d.length - 1 : Nat) : Int) = (d.length : Int) - 1 := by omega
  have elt : ((d.length : Int) - 1).toNat = d.length - 1 := by omega
  rw [el] at cl bl hK
  by_cases hl : 128 ≤ at' d ((d.length : Int) - 1)
  · rw [if_pos (.inr hl)] at hK
    simp (disch := omega) only [wu64, wu32, wu8, fdiv_nn, EO, ↓EP, EQ, EM, ↓reduceIte, Int.reduceAdd, Int.reduceEq, Int.reduceLE, Int.reduceLT, Int.reduceMul, Int.reduceNeg, Int.reducePow, Int.reduceSub, Int.reduceToNat, Nat.reduceAdd, Nat.reduceEqDiff, Nat.reduceLT, Nat.reduceLeDiff, Nat.reduceMul, reduceCtorEq, Code.c21, elt, cl]
    exact hK w (Fr.refl _ _)
  rw [if_neg (fun h => by rcases h with h | h; exact h0 h; exact hl h)] at hK
  simp (disch := omega) only [wu64, wu32, wu8, fdiv_nn, EO, ↓EP, EQ, EM, ↓reduceIte, Int.reduceAdd, Int.reduceEq, Int.reduceLE, Int.reduceLT, Int.reduceMul, Int.reduceNeg, Int.reducePow, Int.reduceSub, Int.reduceToNat, Nat.reduceAdd, Nat.reduceEqDiff, Nat.reduceLT, Nat.reduceLeDiff, Nat.reduceMul, reduceCtorEq, Code.c21, elt, cl]
  refine loop_inv (fun t ρ w' => w' = w ∧ ∃ i : Nat, ρ 25 = .int .i64 i ∧ i ≤ d.length ∧ t = d.length - i ∧ padGo (decide (i = 0 ∨ at' d ((i : Int) - 1) < 128)) (d.drop i) = padGo true d) d.length ⟨rfl, 0, by simp (disch := omega) only [wu64, wu32, wu8, fdiv_nn, EO, ↓EP, EQ, EM, ↓reduceIte, Int.reduceAdd, Int.reduceEq, Int.reduceLE, Int.reduceLT, Int.reduceMul, Int.reduceNeg, Int.reducePow, Int.reduceSub, Int.reduceToNat, Nat.reduceAdd, Nat.reduceEqDiff, Nat.reduceLT, Nat.reduceLeDiff, Nat.reduceMul, reduceCtorEq], by omega, by omega, by simp⟩ ?_
  rintro t ρ w' hf ⟨rfl, i, h25, hi, rfl, hgo⟩ N hN
  have r0 : ρ 0 = .slice (some ad) d.length c := by rw [hf 0 rfl]; simp (disch := omega) only [wu64, wu32, wu8, fdiv_nn, EO, ↓EP, EQ, EM, ↓reduceIte, Int.reduceAdd, Int.reduceEq, Int.reduceLE, Int.reduceLT, Int.reduceMul, Int.reduceNeg, Int.reducePow, Int.reduceSub, Int.reduceToNat, Nat.reduceAdd, Nat.reduceEqDiff, Nat.reduceLT, Nat.reduceLeDiff, Nat.reduceMul, reduceCtorEq]
  have r23 : ρ 23 = .slice (some ad) d.length c := by rw [hf 23 rfl]; simp (disch := omega) only [wu64, wu32, wu8, fdiv_nn, EO, ↓EP, EQ, EM, ↓reduceIte, Int.reduceAdd, Int.reduceEq, Int.reduceLE, Int.reduceLT, Int.reduceMul, Int.reduceNeg, Int.reducePow, Int.reduceSub, Int.reduceToNat, Nat.reduceAdd, Nat.reduceEqDiff, Nat.reduceLT, Nat.reduceLeDiff, Nat.reduceMul, reduceCtorEq]
  have r24 : ρ 24 = .int .i64 d.length := by rw [hf 24 rfl]; simp (disch := omega) only [wu64, wu32, wu8, fdiv_nn, EO, ↓EP, EQ, EM, ↓reduceIte, Int.reduceAdd, Int.reduceEq, Int.reduceLE, Int.reduceLT, Int.reduceMul, Int.reduceNeg, Int.reducePow, Int.reduceSub, Int.reduceToNat, Nat.reduceAdd, Nat.reduceEqDiff, Nat.reduceLT, Nat.reduceLeDiff, Nat.reduceMul, reduceCtorEq]
  clear hf
  by_cases hil : (i : Int) < (d.length : Int)
  · have ci := cell i (by omega)
    have bi := hb i
    rw [drop_at (show i < d.length by omega), padGo] at hgo
    by_cases h128 : at' d (i : Int) = 128
    · by_cases hi0 : i = 0
      · subst hi0
        rw [h128, decide_eq_true rfl, decide_eq_true (.inl rfl), Bool.and_self, Bool.true_or] at hgo
        rw [if_pos hgo.symm] at hK
        rw [h128] at ci
        simp (disch := omega) only [wu64, wu32, wu8, fdiv_nn, EO, ↓EP, EQ, EM, ↓reduceIte, Int.reduceAdd, Int.reduceEq, Int.reduceLE, Int.reduceLT, Int.reduceMul, Int.reduceNeg, Int.reducePow, Int.reduceSub, Int.reduceToNat, Nat.reduceAdd, Nat.reduceEqDiff, Nat.reduceLT, Nat.reduceLeDiff, Nat.reduceMul, reduceCtorEq, W_join, h25, r0, r23, r24, ci, Int.natCast_zero]
        exact hK w' (Fr.refl _ _)
      · have cj := cell (i - 1) (by omega)
        have bj := hb (i - 1)
        have ej : ((i - 1 : Nat) : Int) = (i : Int) - 1 := by omega
        have ejt : ((i : Int) - 1).toNat = i - 1 := by omega
        rw [ej] at cj bj
        by_cases hj : at' d ((i : Int) - 1) < 128
        · rw [h128, decide_eq_true rfl, decide_eq_true (.inr hj), Bool.and_self, Bool.true_or] at hgo
          rw [if_pos hgo.symm] at hK
          rw [h128] at ci
          simp (disch := omega) only [wu64, wu32, wu8, fdiv_nn, EO, ↓EP, EQ, EM, ↓reduceIte, Int.reduceAdd, Int.reduceEq, Int.reduceLE, Int.reduceLT, Int.reduceMul, Int.reduceNeg, Int.reducePow, Int.reduceSub, Int.reduceToNat, Nat.reduceAdd, Nat.reduceEqDiff, Nat.reduceLT, Nat.reduceLeDiff, Nat.reduceMul, reduceCtorEq, W_join, h25, r0, r23, r24, ci, cj, ejt]
          exact hK w' (Fr.refl _ _)
        · rw [decide_eq_false (show ¬ (i = 0 ∨ at' d ((i : Int) - 1) < 128) from fun h => by rcases h with h | h; exact hi0 h; exact hj h), Bool.and_false, Bool.false_or] at hgo
          have hst : padGo (decide (i + 1 = 0 ∨ at' d (((i + 1 : Nat) : Int) - 1) < 128)) (d.drop (i + 1)) = padGo true d := by
            rw [← hgo]
            congr 1
            have e1 : ((i + 1 : Nat) : Int) - 1 = (i : Int) := by omega
            rw [e1]
            exact decide_eq_decide.2 ⟨fun h => by rcases h with h | h; omega; exact h, .inr⟩
          rw [h128] at ci
          simp (disch := omega) only [wu64, wu32, wu8, fdiv_nn, EO, ↓EP, EQ, EM, ↓reduceIte, Int.reduceAdd, Int.reduceEq, Int.reduceLE, Int.reduceLT, Int.reduceMul, Int.reduceNeg, Int.reducePow, Int.reduceSub, Int.reduceToNat, Nat.reduceAdd, Nat.reduceEqDiff, Nat.reduceLT, Nat.reduceLeDiff, Nat.reduceMul, reduceCtorEq, W_join, h25, r0, r23, r24, ci, cj, ejt]
          exact hN (d.length - (i + 1)) _ _ (by omega) ⟨rfl, i + 1, by simp (disch := omega) only [wu64, wu32, wu8, fdiv_nn, EO, ↓EP, EQ, EM, ↓reduceIte, Int.reduceAdd, Int.reduceEq, Int.reduceLE, Int.reduceLT, Int.reduceMul, Int.reduceNeg, Int.reducePow, Int.reduceSub, Int.reduceToNat, Nat.reduceAdd, Nat.reduceEqDiff, Nat.reduceLT, Nat.reduceLeDiff, Nat.reduceMul, reduceCtorEq, h25, Int.natCast_add], by omega, rfl, hst⟩
    · rw [decide_eq_false h128, Bool.false_and, Bool.false_or] at hgo
      have hst : padGo (decide (i + 1 = 0 ∨ at' d (((i + 1 : Nat) : Int) - 1) < 128)) (d.drop (i + 1)) = padGo true d := by
        rw [← hgo]
        congr 1
        have e1 : ((i + 1 : Nat) : Int) - 1 = (i : Int) := by omega
        rw [e1]
        exact decide_eq_decide.2 ⟨fun h => by rcases h with h | h; omega; exact h, .inr⟩
      simp (disch := omega) only [wu64, wu32, wu8, fdiv_nn, EO, ↓EP, EQ, EM, ↓reduceIte, Int.reduceAdd, Int.reduceEq, Int.reduceLE, Int.reduceLT, Int.reduceMul, Int.reduceNeg, Int.reducePow, Int.reduceSub, Int.reduceToNat, Nat.reduceAdd, Nat.reduceEqDiff, Nat.reduceLT, Nat.reduceLeDiff, Nat.reduceMul, reduceCtorEq, W_join, h25, r0, r23, r24, ci]
      exact hN (d.length - (i + 1)) _ _ (by omega) ⟨rfl, i + 1, by simp (disch := omega) only [wu64, wu32, wu8, fdiv_nn, EO, ↓EP, EQ, EM, ↓reduceIte, Int.reduceAdd, Int.reduceEq, Int.reduceLE, Int.reduceLT, Int.reduceMul, Int.reduceNeg, Int.reducePow, Int.reduceSub, Int.reduceToNat, Nat.reduceAdd, Nat.reduceEqDiff, Nat.reduceLT, Nat.reduceLeDiff, Nat.reduceMul, reduceCtorEq, h25, Int.natCast_add], by omega, rfl, hst⟩
  have hie : i = d.length := by omega
  subst hie
  rw [List.drop_length, padGo] at hgo
  rw [if_neg (by rw [← hgo]; simp)] at hK
  clear hgo hN
  simp (disch := omega) only [wu64, wu32, wu8, fdiv_nn, EO, ↓EP, EQ, EM, ↓reduceIte, Int.reduceAdd, Int.reduceEq, Int.reduceLE, Int.reduceLT, Int.reduceMul, Int.reduceNeg, Int.reducePow, Int.reduceSub, Int.reduceToNat, Nat.reduceAdd, Nat.reduceEqDiff, Nat.reduceLT, Nat.reduceLeDiff, Nat.reduceMul, reduceCtorEq, W_join, h25, r0, r23, r24]
  refine loop_inv (fun t ρ w2 => Fr w' w2 nob ∧ ∃ (j : Nat) (x : Int) (s : List UInt8), ρ 47 = .int .i64 j ∧ ρ 7 = .int .u64 x ∧ ρ 6 = .string (S s) ∧ j ≤ d.length ∧ t = d.length - j ∧ 0 ≤ x ∧ x ≤ 1099511627776 ∧ s.length ≤ 64 * j ∧ oidGo (d.drop j) x s = oidGo d 0 []) d.length ⟨Fr.refl _ _, 0, 0, [], by simp (disch := omega) only [wu64, wu32, wu8, fdiv_nn, EO, ↓EP, EQ, EM, ↓reduceIte, Int.reduceAdd, Int.reduceEq, Int.reduceLE, Int.reduceLT, Int.reduceMul, Int.reduceNeg, Int.reducePow, Int.reduceSub, Int.reduceToNat, Nat.reduceAdd, Nat.reduceEqDiff, Nat.reduceLT, Nat.reduceLeDiff, Nat.reduceMul, reduceCtorEq], by simp (disch := omega) only [wu64, wu32, wu8, fdiv_nn, EO, ↓EP, EQ, EM, ↓reduceIte, Int.reduceAdd, Int.reduceEq, Int.reduceLE, Int.reduceLT, Int.reduceMul, Int.reduceNeg, Int.reducePow, Int.reduceSub, Int.reduceToNat, Nat.reduceAdd, Nat.reduceEqDiff, Nat.reduceLT, Nat.reduceLeDiff, Nat.reduceMul, reduceCtorEq], by simp (disch := omega) only [wu64, wu32, wu8, fdiv_nn, EO, ↓EP, EQ, EM, ↓reduceIte, Int.reduceAdd, Int.reduceEq, Int.reduceLE, Int.reduceLT, Int.reduceMul, Int.reduceNeg, Int.reducePow, Int.reduceSub, Int.reduceToNat, Nat.reduceAdd, Nat.reduceEqDiff, Nat.reduceLT, Nat.reduceLeDiff, Nat.reduceMul, reduceCtorEq, S_nil], by omega, by omega, by omega, by omega, by simp, rfl⟩ ?_
  rintro t ρ w2 hf ⟨fr, j, x, s, h47, h7, h6, hj, rfl, hx, hx', hs, hgo⟩ N hN
  have r45 : ρ 45 = .slice (some ad) d.length c := by rw [hf 45 rfl]; simp (disch := omega) only [wu64, wu32, wu8, fdiv_nn, EO, ↓EP, EQ, EM, ↓reduceIte, Int.reduceAdd, Int.reduceEq, Int.reduceLE, Int.reduceLT, Int.reduceMul, Int.reduceNeg, Int.reducePow, Int.reduceSub, Int.reduceToNat, Nat.reduceAdd, Nat.reduceEqDiff, Nat.reduceLT, Nat.reduceLeDiff, Nat.reduceMul, reduceCtorEq, r0]
  have r46 : ρ 46 = .int .i64 d.length := by rw [hf 46 rfl]; simp (disch := omega) only [wu64, wu32, wu8, fdiv_nn, EO, ↓EP, EQ, EM, ↓reduceIte, Int.reduceAdd, Int.reduceEq, Int.reduceLE, Int.reduceLT, Int.reduceMul, Int.reduceNeg, Int.reducePow, Int.reduceSub, Int.reduceToNat, Nat.reduceAdd, Nat.reduceEqDiff, Nat.reduceLT, Nat.reduceLeDiff, Nat.reduceMul, reduceCtorEq, r0]
  clear hf
  by_cases hjl : (j : Int) < (d.length : Int)
  · have cj : w2.cell? (ad.add j) = some (.int .u8 (at' d (j : Int))) := by
      obtain ⟨ad', e', _, hcl⟩ := (hr.nb fr).get (by rw [nums_length]; omega)
      cases e'
      exact hcl.numN (by omega)
    have bj := hb j
    have e127 := d8_and127 bj
    rw [drop_at (show j < d.length by omega), oidGo] at hgo
    have hor := u64_or7' (n := x) (c := at' d (j : Int) % 128) hx (by omega) (by omega) (by omega)
    have sb := satA_bd (v := x * 128 + at' d (j : Int) % 128) (by omega)
    have hst : (if 1099511627776 < x * 128 + at' d (j : Int) % 128 then (1099511627776 : Int) else x * 128 + at' d (j : Int) % 128) = satA (x * 128 + at' d (j : Int) % 128) := rfl
    by_cases h128 : 128 ≤ at' d (j : Int)
    · rw [if_pos h128] at hgo
      simp (disch := omega) only [wu64, wu32, wu8, fdiv_nn, EO, ↓EP, EQ, EM, ↓reduceIte, Int.reduceAdd, Int.reduceEq, Int.reduceLE, Int.reduceLT, Int.reduceMul, Int.reduceNeg, Int.reducePow, Int.reduceSub, Int.reduceToNat, Nat.reduceAdd, Nat.reduceEqDiff, Nat.reduceLT, Nat.reduceLeDiff, Nat.reduceMul, reduceCtorEq, W_join, h47, h7, r45, r46, cj, e127, hor]
      exact hN (d.length - (j + 1)) _ _ (by omega) ⟨fr, j + 1, _, s, by simp (disch := omega) only [wu64, wu32, wu8, fdiv_nn, EO, ↓EP, EQ, EM, ↓reduceIte, Int.reduceAdd, Int.reduceEq, Int.reduceLE, Int.reduceLT, Int.reduceMul, Int.reduceNeg, Int.reducePow, Int.reduceSub, Int.reduceToNat, Nat.reduceAdd, Nat.reduceEqDiff, Nat.reduceLT, Nat.reduceLeDiff, Nat.reduceMul, reduceCtorEq, h47, Int.natCast_add], by simp (disch := omega) only [wu64, wu32, wu8, fdiv_nn, EO, ↓EP, EQ, EM, ↓reduceIte, Int.reduceAdd, Int.reduceEq, Int.reduceLE, Int.reduceLT, Int.reduceMul, Int.reduceNeg, Int.reducePow, Int.reduceSub, Int.reduceToNat, Nat.reduceAdd, Nat.reduceEqDiff, Nat.reduceLT, Nat.reduceLeDiff, Nat.reduceMul, reduceCtorEq, hst], by simp (disch := omega) only [wu64, wu32, wu8, fdiv_nn, EO, ↓EP, EQ, EM, ↓reduceIte, Int.reduceAdd, Int.reduceEq, Int.reduceLE, Int.reduceLT, Int.reduceMul, Int.reduceNeg, Int.reducePow, Int.reduceSub, Int.reduceToNat, Nat.reduceAdd, Nat.reduceEqDiff, Nat.reduceLT, Nat.reduceLeDiff, Nat.reduceMul, reduceCtorEq, h6], by omega, rfl, sb.1, sb.2, by omega, hgo⟩
    rw [if_neg h128] at hgo
    generalize satA (x * 128 + at' d (j : Int) % 128) = y at hgo sb hst
    by_cases hs0 : s = []
    · rw [if_pos hs0] at hgo
      have ht0 := tdiv_nn (b := 40) sb.1
      have hmin : (if 2 < y / 40 then (2 : Int) else y / 40) = min (y / 40) 2 := by split <;> omega
      have hs0' : decide (s = []) = true := decide_eq_true hs0
      have hwu : IntKind.u64.wrap (y / 40) = y / 40 := wu64 (by omega) (by omega)
      have hmb : 0 ≤ min (y / 40) 2 ∧ min (y / 40) 2 ≤ 2 ∧ 40 * min (y / 40) 2 ≤ y := by omega
      generalize min (y / 40) 2 = z at hgo hmin hmb
      have hwz : IntKind.i64.wrap z = z := w64 (by omega) (by omega)
      have hwy : IntKind.u64.wrap (y - IntKind.u64.wrap (40 * z)) = y - 40 * z := by
        rw [wu64 (n := 40 * z) (by omega) (by omega), wu64 (by omega) (by omega)]
      simp (disch := omega) only [wu64, wu32, wu8, fdiv_nn, EO, ↓EP, EQ, EM, ↓reduceIte, Int.reduceAdd, Int.reduceEq, Int.reduceLE, Int.reduceLT, Int.reduceMul, Int.reduceNeg, Int.reducePow, Int.reduceSub, Int.reduceToNat, Nat.reduceAdd, Nat.reduceEqDiff, Nat.reduceLT, Nat.reduceLeDiff, Nat.reduceMul, reduceCtorEq, W_join, h47, h7, h6, r45, r46, cj, e127, hor, hst, b_seql, eqE, hs0', ht0, hwu, hmin, hwz]
      refine itoa_vw hmb.1 (by omega) (hT.nb fr) _ fun w3 f3 => ?_
      have l1 := digs_len z.toNat
      by_cases hbig : 2147483647 < y - 40 * z
      · rw [if_pos hbig] at hgo
        rw [← hgo] at hK
        simp (disch := omega) only [wu64, wu32, wu8, fdiv_nn, EO, ↓EP, EQ, EM, ↓reduceIte, Int.reduceAdd, Int.reduceEq, Int.reduceLE, Int.reduceLT, Int.reduceMul, Int.reduceNeg, Int.reducePow, Int.reduceSub, Int.reduceToNat, Nat.reduceAdd, Nat.reduceEqDiff, Nat.reduceLT, Nat.reduceLeDiff, Nat.reduceMul, reduceCtorEq, W_join, ht0, hwu, hmin, hwy, hbig]
        exact hK w3 (fr.nb f3)
      · rw [if_neg hbig] at hgo
        have hwi : IntKind.i64.wrap (y - 40 * z) = y - 40 * z := w64 (by omega) (by omega)
        simp (disch := omega) only [wu64, wu32, wu8, fdiv_nn, EO, ↓EP, EQ, EM, ↓reduceIte, Int.reduceAdd, Int.reduceEq, Int.reduceLE, Int.reduceLT, Int.reduceMul, Int.reduceNeg, Int.reducePow, Int.reduceSub, Int.reduceToNat, Nat.reduceAdd, Nat.reduceEqDiff, Nat.reduceLT, Nat.reduceLeDiff, Nat.reduceMul, reduceCtorEq, W_join, ht0, hwu, hmin, hwy, hbig, hwi]
        refine itoa_vw (by omega) (by omega) (hT.nb (fr.nb f3)) _ fun w4 f4 => ?_
        have l2 := digs_len (y - 40 * z).toNat
        simp (disch := omega) only [wu64, wu32, wu8, fdiv_nn, EO, ↓EP, EQ, EM, ↓reduceIte, Int.reduceAdd, Int.reduceEq, Int.reduceLE, Int.reduceLT, Int.reduceMul, Int.reduceNeg, Int.reducePow, Int.reduceSub, Int.reduceToNat, Nat.reduceAdd, Nat.reduceEqDiff, Nat.reduceLT, Nat.reduceLeDiff, Nat.reduceMul, reduceCtorEq, h47, ht0, hwu, hmin, hwy, b_sadd, dot_add, dot_size, S_size, S_append, List.length_cons]
        exact hN (d.length - (j + 1)) _ _ (by omega) ⟨(fr.nb f3).nb f4, j + 1, 0, _, by simp (disch := omega) only [wu64, wu32, wu8, fdiv_nn, EO, ↓EP, EQ, EM, ↓reduceIte, Int.reduceAdd, Int.reduceEq, Int.reduceLE, Int.reduceLT, Int.reduceMul, Int.reduceNeg, Int.reducePow, Int.reduceSub, Int.reduceToNat, Nat.reduceAdd, Nat.reduceEqDiff, Nat.reduceLT, Nat.reduceLeDiff, Nat.reduceMul, reduceCtorEq, h47, Int.natCast_add], by simp (disch := omega) only [wu64, wu32, wu8, fdiv_nn, EO, ↓EP, EQ, EM, ↓reduceIte, Int.reduceAdd, Int.reduceEq, Int.reduceLE, Int.reduceLT, Int.reduceMul, Int.reduceNeg, Int.reducePow, Int.reduceSub, Int.reduceToNat, Nat.reduceAdd, Nat.reduceEqDiff, Nat.reduceLT, Nat.reduceLeDiff, Nat.reduceMul, reduceCtorEq], by simp (disch := omega) only [wu64, wu32, wu8, fdiv_nn, EO, ↓EP, EQ, EM, ↓reduceIte, Int.reduceAdd, Int.reduceEq, Int.reduceLE, Int.reduceLT, Int.reduceMul, Int.reduceNeg, Int.reducePow, Int.reduceSub, Int.reduceToNat, Nat.reduceAdd, Nat.reduceEqDiff, Nat.reduceLT, Nat.reduceLeDiff, Nat.reduceMul, reduceCtorEq, ht0, hwu, hmin, hwy, b_sadd, dot_add, S_append], by omega, rfl, by omega, by omega, by simp; omega, hgo⟩
    · rw [if_neg hs0] at hgo
      have hs0' : decide (s = []) = false := decide_eq_false hs0
      by_cases hbig : 2147483647 < y
      · rw [if_pos hbig] at hgo
        rw [← hgo] at hK
        simp (disch := omega) only [wu64, wu32, wu8, fdiv_nn, EO, ↓EP, EQ, EM, ↓reduceIte, Int.reduceAdd, Int.reduceEq, Int.reduceLE, Int.reduceLT, Int.reduceMul, Int.reduceNeg, Int.reducePow, Int.reduceSub, Int.reduceToNat, Nat.reduceAdd, Nat.reduceEqDiff, Nat.reduceLT, Nat.reduceLeDiff, Nat.reduceMul, reduceCtorEq, W_join, h47, h7, h6, r45, r46, cj, e127, hor, hst, b_seql, eqE, hs0', hbig]
        exact hK w2 fr
      · rw [if_neg hbig] at hgo
        have hxy : x * 128 + at' d (j : Int) % 128 = y := by split at hst <;> omega
        have hwi : IntKind.i64.wrap y = y := w64 (by omega) (by omega)
        simp (disch := omega) only [wu64, wu32, wu8, fdiv_nn, EO, ↓EP, EQ, EM, ↓reduceIte, Int.reduceAdd, Int.reduceEq, Int.reduceLE, Int.reduceLT, Int.reduceMul, Int.reduceNeg, Int.reducePow, Int.reduceSub, Int.reduceToNat, Nat.reduceAdd, Nat.reduceEqDiff, Nat.reduceLT, Nat.reduceLeDiff, Nat.reduceMul, reduceCtorEq, W_join, h47, h7, h6, r45, r46, cj, e127, hor, hst, b_seql, eqE, hs0', hbig, hxy, hwi]
        refine itoa_vw (by omega) (by omega) (hT.nb fr) _ fun w4 f4 => ?_
        have l2 := digs_len y.toNat
        simp (disch := omega) only [wu64, wu32, wu8, fdiv_nn, EO, ↓EP, EQ, EM, ↓reduceIte, Int.reduceAdd, Int.reduceEq, Int.reduceLE, Int.reduceLT, Int.reduceMul, Int.reduceNeg, Int.reducePow, Int.reduceSub, Int.reduceToNat, Nat.reduceAdd, Nat.reduceEqDiff, Nat.reduceLT, Nat.reduceLeDiff, Nat.reduceMul, reduceCtorEq, h47, h6, hxy, hst, hwi, b_sadd, dot_add, dot_size, S_size, S_append, List.length_cons]
        exact hN (d.length - (j + 1)) _ _ (by omega) ⟨fr.nb f4, j + 1, 0, _, by simp (disch := omega) only [wu64, wu32, wu8, fdiv_nn, EO, ↓EP, EQ, EM, ↓reduceIte, Int.reduceAdd, Int.reduceEq, Int.reduceLE, Int.reduceLT, Int.reduceMul, Int.reduceNeg, Int.reducePow, Int.reduceSub, Int.reduceToNat, Nat.reduceAdd, Nat.reduceEqDiff, Nat.reduceLT, Nat.reduceLeDiff, Nat.reduceMul, reduceCtorEq, h47, Int.natCast_add], by simp (disch := omega) only [wu64, wu32, wu8, fdiv_nn, EO, ↓EP, EQ, EM, ↓reduceIte, Int.reduceAdd, Int.reduceEq, Int.reduceLE, Int.reduceLT, Int.reduceMul, Int.reduceNeg, Int.reducePow, Int.reduceSub, Int.reduceToNat, Nat.reduceAdd, Nat.reduceEqDiff, Nat.reduceLT, Nat.reduceLeDiff, Nat.reduceMul, reduceCtorEq], by simp (disch := omega) only [wu64, wu32, wu8, fdiv_nn, EO, ↓EP, EQ, EM, ↓reduceIte, Int.reduceAdd, Int.reduceEq, Int.reduceLE, Int.reduceLT, Int.reduceMul, Int.reduceNeg, Int.reducePow, Int.reduceSub, Int.reduceToNat, Nat.reduceAdd, Nat.reduceEqDiff, Nat.reduceLT, Nat.reduceLeDiff, Nat.reduceMul, reduceCtorEq, h6, dot_add, S_append], by omega, rfl, by omega, by omega, by simp; omega, hgo⟩
  · have hje : j = d.length := by omega
    subst hje
    rw [List.drop_length, oidGo] at hgo
    rw [← hgo] at hK
    simp (disch := omega) only [wu64, wu32, wu8, fdiv_nn, EO, ↓EP, EQ, EM, ↓reduceIte, Int.reduceAdd, Int.reduceEq, Int.reduceLE, Int.reduceLT, Int.reduceMul, Int.reduceNeg, Int.reducePow, Int.reduceSub, Int.reduceToNat, Nat.reduceAdd, Nat.reduceEqDiff, Nat.reduceLT, Nat.reduceLeDiff, Nat.reduceMul, reduceCtorEq, W_join, h47, h7, h6, r45, r46]
    exact hK w2 fr
end Go.Proofs.YtcflokckfjkdpaaDoor.Der
