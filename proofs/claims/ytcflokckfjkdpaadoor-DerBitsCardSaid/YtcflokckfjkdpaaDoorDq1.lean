/- The document's bits, walked. -/
import Derived.Test.YtcflokckfjkdpaaDoorDt4
set_option linter.unusedVariables false
set_option linter.unusedSimpArgs false
namespace Go.Proofs.YtcflokckfjkdpaaDoor.Der
open Go Go.RowKit Go.Proofs Go.Proofs.YtcflokckfjkdpaaDoor.Eng Go.Proofs.YtcflokckfjkdpaaDoor.Code
set_option maxRecDepth 100000
attribute [local irreducible] callK S.W opsW scrW scrT

theorem mod_step (x i : Nat) : x % 2 ^ (i + 1) = 2 ^ i * (x / 2 ^ i % 2) + x % 2 ^ i := by
  rw [Nat.pow_succ, Nat.mod_mul]; omega
theorem mod_low {x i k : Nat} (h : i < k) (hb : x / 2 ^ i % 2 = 1) : x % 2 ^ k ≠ 0 := by
  intro hz
  have h1 : 2 ^ (i + 1) ∣ x := Nat.dvd_trans (Nat.pow_dvd_pow 2 (by omega)) (Nat.dvd_of_mod_eq_zero hz)
  have h2 := Nat.mod_eq_zero_of_dvd h1
  rw [mod_step, hb] at h2
  have := Nat.two_pow_pos i
  omega
theorem and1n {y : Nat} (h : y < 256) : bits .and .u8 (y : Int) 1 = ((y % 2 : Nat) : Int) := by
  rw [d8_and1 ⟨by omega, by omega⟩]; omega
theorem cast_mod (x k : Nat) : ((x : Int) % 2 ^ k = 0) = (x % 2 ^ k = 0) := by
  have e : ((x : Int) % 2 ^ k) = ((x % 2 ^ k : Nat) : Int) := by simp
  rw [e]
  exact propext ⟨fun h => by omega, fun h => by omega⟩
set_option maxHeartbeats 1000000 in
theorem rbits_vw {w : World} {v : Value} {d : List Int} (hv : Vw .u8 w v d) (hb : ByteL d) (hm : d.length ≤ 1073741824) (K : Value → World → Prop)
    (hK : ∀ v' w', Gw .u8 w w' v' (bitsR d).1 → K (pr3 v' (bitsR d).2.1 (bitsR d).2.2) w') : callK Tryd.prog 15 [v] w K := by
  obtain ⟨A, c, rfl, hc, hr⟩ := hv
  refine call_of Tryd.func15 Code.h15 (by simp [Code.c15]) ?_
  unfold bitsR at hK
  by_cases h0 : d.length = 0
  · rw [if_pos (.inl h0)] at hK
    simp (disch := omega) only [wu64, wu32, wu8, fdiv_nn, EO, ↓EP, EQ, EM, ↓reduceIte, Int.reduceAdd, Int.reduceEq, Int.reduceLE, Int.reduceLT, Int.reduceMul, Int.reduceNeg, Int.reducePow, Int.reduceSub, Int.reduceToNat, Nat.reduceAdd, Nat.reduceEqDiff, Nat.reduceLT, Nat.reduceLeDiff, Nat.reduceMul, reduceCtorEq, Code.c15, h0, Int.natCast_zero]
    exact hK _ _ (Gw.nil .u8 w)
  obtain ⟨ad, rfl, cell⟩ := pos_cells hr (by omega)
  have c0 := cell 0 (by omega)
  have b0 := hb 0
  rw [show ((0 : Nat) : Int) = 0 by rfl] at c0 b0
  by_cases h7 : 7 < at' d 0
  · rw [if_pos (.inr (.inl h7))] at hK
    simp (disch := omega) only [wu64, wu32, wu8, fdiv_nn, EO, ↓EP, EQ, EM, ↓reduceIte, Int.reduceAdd, Int.reduceEq, Int.reduceLE, Int.reduceLT, Int.reduceMul, Int.reduceNeg, Int.reducePow, Int.reduceSub, Int.reduceToNat, Nat.reduceAdd, Nat.reduceEqDiff, Nat.reduceLT, Nat.reduceLeDiff, Nat.reduceMul, reduceCtorEq, Code.c15, c0]
    exact hK _ _ (Gw.nil .u8 w)
  by_cases h1 : at' d 0 ≠ 0 ∧ d.length = 1
  · rw [if_pos (.inr (.inr h1))] at hK
    simp (disch := omega) only [wu64, wu32, wu8, fdiv_nn, EO, ↓EP, EQ, EM, ↓reduceIte, Int.reduceAdd, Int.reduceEq, Int.reduceLE, Int.reduceLT, Int.reduceMul, Int.reduceNeg, Int.reducePow, Int.reduceSub, Int.reduceToNat, Nat.reduceAdd, Nat.reduceEqDiff, Nat.reduceLT, Nat.reduceLeDiff, Nat.reduceMul, reduceCtorEq, Code.c15, c0, h1.2, Int.natCast_one]
    exact hK _ _ (Gw.nil .u8 w)
  rw [if_neg (fun h => by rcases h with h | h | h; exact h0 h; exact h7 h; exact h1 h)] at hK
  obtain ⟨k, hk⟩ : ∃ k : Nat, at' d 0 = (k : Int) := ⟨(at' d 0).toNat, by omega⟩
  have hk8 : k < 8 := by omega
  have hl := cell (d.length - 1) (by omega)
  have bl := hb (d.length - 1)
  have el : ((d.length - 1 : Nat) : Int) = (d.length : Int) - 1 := by omega
  rw [el] at hl bl
  have elt : ((d.length : Int) - 1).toNat = d.length - 1 := by omega
  obtain ⟨x, hx⟩ : ∃ x : Nat, at' d ((d.length : Int) - 1) = (x : Int) := ⟨(at' d ((d.length : Int) - 1)).toNat, by omega⟩
  rw [hx] at hl bl
  rw [hx, hk, Int.toNat_natCast] at hK
  have hor : at' d 0 = 0 ∨ ¬ d.length = 1 := by
    by_cases h : at' d 0 = 0
    · exact .inl h
    · exact .inr fun h' => h1 ⟨h, h'⟩
  have go : (if (k : Int) = 0 then True else ¬ d.length = 1) := by
    split
    · trivial
    · rcases hor with h | h
      · omega
      · exact h
  rw [hk] at c0
  have cellf : ∀ w2, Fr w w2 nob → w2.cell? (ad.add 0) = some (.int .u8 (k : Int)) := fun w2 f => by
    obtain ⟨ad', e', _, hcl⟩ := (hr.nb f).get (by rw [nums_length]; omega)
    cases e'
    have q0 := hcl.numN (j := 0) (by omega)
    rw [show ((0 : Nat) : Int) = 0 by rfl, hk] at q0
    exact q0
  by_cases hk0 : k = 0
  · subst hk0
    simp (disch := omega) only [wu64, wu32, wu8, fdiv_nn, EO, ↓EP, EQ, EM, ↓reduceIte, Int.reduceAdd, Int.reduceEq, Int.reduceLE, Int.reduceLT, Int.reduceMul, Int.reduceNeg, Int.reducePow, Int.reduceSub, Int.reduceToNat, Nat.reduceAdd, Nat.reduceEqDiff, Nat.reduceLT, Nat.reduceLeDiff, Nat.reduceMul, reduceCtorEq, Code.c15, c0, Int.natCast_zero]
    rw [if_neg (by simp [Int.emod_one])] at hK
    refine loop_inv (fun t ρ w' => w' = w ∧ ρ 5 = .int .i64 0) 1 ⟨rfl, by simp (disch := omega) only [wu64, wu32, wu8, fdiv_nn, EO, ↓EP, EQ, EM, ↓reduceIte, Int.reduceAdd, Int.reduceEq, Int.reduceLE, Int.reduceLT, Int.reduceMul, Int.reduceNeg, Int.reducePow, Int.reduceSub, Int.reduceToNat, Nat.reduceAdd, Nat.reduceEqDiff, Nat.reduceLT, Nat.reduceLeDiff, Nat.reduceMul, reduceCtorEq]⟩ ?_
    rintro t ρ w' hf ⟨rfl, h5⟩ N hN
    have r0 : ρ 0 = .slice (some ad) d.length c := by rw [hf 0 rfl]; simp (disch := omega) only [wu64, wu32, wu8, fdiv_nn, EO, ↓EP, EQ, EM, ↓reduceIte, Int.reduceAdd, Int.reduceEq, Int.reduceLE, Int.reduceLT, Int.reduceMul, Int.reduceNeg, Int.reducePow, Int.reduceSub, Int.reduceToNat, Nat.reduceAdd, Nat.reduceEqDiff, Nat.reduceLT, Nat.reduceLeDiff, Nat.reduceMul, reduceCtorEq]
    clear hf hN
    simp (disch := omega) only [wu64, wu32, wu8, fdiv_nn, EO, ↓EP, EQ, EM, ↓reduceIte, Int.reduceAdd, Int.reduceEq, Int.reduceLE, Int.reduceLT, Int.reduceMul, Int.reduceNeg, Int.reducePow, Int.reduceSub, Int.reduceToNat, Nat.reduceAdd, Nat.reduceEqDiff, Nat.reduceLT, Nat.reduceLeDiff, Nat.reduceMul, reduceCtorEq, h5, r0, c0, Int.natCast_zero]
    intro m1
    refine al_k (nums .u8 []) rfl fun w1 n1 => ?_
    have g1 : Gw .u8 w' w1 (.slice (some ⟨(w'.drewN (1 + m1)).heap.size, 0, none⟩) 0 0) [] := ⟨n1.sl, fun b e => by cases e; exact Nat.le_refl _, (Fr.drewN w' (1 + m1) nob).nb (n1.fr nob)⟩
    have d1 := cellf w1 g1.fr
    simp (disch := omega) only [wu64, wu32, wu8, fdiv_nn, EO, ↓EP, EQ, EM, ↓reduceIte, Int.reduceAdd, Int.reduceEq, Int.reduceLE, Int.reduceLT, Int.reduceMul, Int.reduceNeg, Int.reducePow, Int.reduceSub, Int.reduceToNat, Nat.reduceAdd, Nat.reduceEqDiff, Nat.reduceLT, Nat.reduceLeDiff, Nat.reduceMul, reduceCtorEq, h5, r0, d1, Int.natCast_zero]
    intro m2
    have f2 := g1.fr.nb (Fr.drewN w1 m2 nob)
    refine app_num (g1.step (Fr.drewN w1 m2 nob)).sl (by simp) ((hr.nb f2).subA c 1 hc) (by simp; omega) (by omega) fun v3 w3 a3 => ?_
    have g3 := (g1.step (Fr.drewN w1 m2 nob)).apd a3
    rw [List.nil_append] at g3
    have d3 := cellf w3 g3.fr
    simp (disch := omega) only [wu64, wu32, wu8, fdiv_nn, EO, ↓EP, EQ, EM, ↓reduceIte, Int.reduceAdd, Int.reduceEq, Int.reduceLE, Int.reduceLT, Int.reduceMul, Int.reduceNeg, Int.reducePow, Int.reduceSub, Int.reduceToNat, Nat.reduceAdd, Nat.reduceEqDiff, Nat.reduceLT, Nat.reduceLeDiff, Nat.reduceMul, reduceCtorEq, h5, r0, d3, Int.natCast_zero]
    intro m4
    exact hK _ _ (g3.step (Fr.drewN w3 m4 nob))
  · rw [if_neg (by omega)] at go
    have hkf : ((k : Int) = 0) = False := eq_false (by omega)
    have hlf : ((d.length : Int) = 1) = False := eq_false (by omega)
    simp (disch := omega) only [wu64, wu32, wu8, fdiv_nn, EO, ↓EP, EQ, EM, ↓reduceIte, Int.reduceAdd, Int.reduceEq, Int.reduceLE, Int.reduceLT, Int.reduceMul, Int.reduceNeg, Int.reducePow, Int.reduceSub, Int.reduceToNat, Nat.reduceAdd, Nat.reduceEqDiff, Nat.reduceLT, Nat.reduceLeDiff, Nat.reduceMul, reduceCtorEq, Code.c15, c0, hkf, hlf]
    refine loop_inv (fun t ρ w' => w' = w ∧ ∃ i : Nat, ρ 5 = .int .i64 i ∧ i ≤ k ∧ t = k - i ∧ x % 2 ^ i = 0) k ⟨rfl, 0, by simp (disch := omega) only [wu64, wu32, wu8, fdiv_nn, EO, ↓EP, EQ, EM, ↓reduceIte, Int.reduceAdd, Int.reduceEq, Int.reduceLE, Int.reduceLT, Int.reduceMul, Int.reduceNeg, Int.reducePow, Int.reduceSub, Int.reduceToNat, Nat.reduceAdd, Nat.reduceEqDiff, Nat.reduceLT, Nat.reduceLeDiff, Nat.reduceMul, reduceCtorEq], by omega, by omega, by simp [Nat.mod_one]⟩ ?_
    rintro t ρ w' hf ⟨rfl, i, h5, hi, rfl, hmod⟩ N hN
    have r0 : ρ 0 = .slice (some ad) d.length c := by rw [hf 0 rfl]; simp (disch := omega) only [wu64, wu32, wu8, fdiv_nn, EO, ↓EP, EQ, EM, ↓reduceIte, Int.reduceAdd, Int.reduceEq, Int.reduceLE, Int.reduceLT, Int.reduceMul, Int.reduceNeg, Int.reducePow, Int.reduceSub, Int.reduceToNat, Nat.reduceAdd, Nat.reduceEqDiff, Nat.reduceLT, Nat.reduceLeDiff, Nat.reduceMul, reduceCtorEq]
    clear hf
    by_cases hik : (i : Int) < (k : Int)
    · have hsh : (x : Int).fdiv (2 ^ i) = ((x / 2 ^ i : Nat) : Int) := by
        rw [Int.fdiv_eq_ediv_of_nonneg _ (by have := pow2_le (show 0 ≤ i by omega); simp at this; omega)]
        simp
      have hle := Nat.div_le_self x (2 ^ i)
      have hand : bits .and .u8 ((x / 2 ^ i : Nat) : Int) 1 = ((x / 2 ^ i % 2 : Nat) : Int) := by
        exact and1n (by omega)
      have emin : min ((i : Int)).toNat 8 = i := by omega
      by_cases hbit : x / 2 ^ i % 2 = 1
      · have hne := mod_low (show i < k by omega) hbit
        rw [if_pos (fun h => hne (by rwa [cast_mod] at h))] at hK
        rw [hbit] at hand
        simp (disch := omega) only [wu64, wu32, wu8, fdiv_nn, EO, ↓EP, EQ, EM, ↓reduceIte, Int.reduceAdd, Int.reduceEq, Int.reduceLE, Int.reduceLT, Int.reduceMul, Int.reduceNeg, Int.reducePow, Int.reduceSub, Int.reduceToNat, Nat.reduceAdd, Nat.reduceEqDiff, Nat.reduceLT, Nat.reduceLeDiff, Nat.reduceMul, reduceCtorEq, h5, r0, c0, hl, elt, emin, hsh, hand, Int.natCast_one]
        exact hK _ w' (Gw.nil .u8 w')
      · have hb0 : x / 2 ^ i % 2 = 0 := by omega
        have hst : x % 2 ^ (i + 1) = 0 := by rw [mod_step, hb0, hmod]; omega
        rw [hb0] at hand
        simp (disch := omega) only [wu64, wu32, wu8, fdiv_nn, EO, ↓EP, EQ, EM, ↓reduceIte, Int.reduceAdd, Int.reduceEq, Int.reduceLE, Int.reduceLT, Int.reduceMul, Int.reduceNeg, Int.reducePow, Int.reduceSub, Int.reduceToNat, Nat.reduceAdd, Nat.reduceEqDiff, Nat.reduceLT, Nat.reduceLeDiff, Nat.reduceMul, reduceCtorEq, h5, r0, c0, hl, elt, emin, hsh, hand, Int.natCast_zero]
        exact hN (k - (i + 1)) _ _ (by omega) ⟨rfl, i + 1, by simp (disch := omega) only [wu64, wu32, wu8, fdiv_nn, EO, ↓EP, EQ, EM, ↓reduceIte, Int.reduceAdd, Int.reduceEq, Int.reduceLE, Int.reduceLT, Int.reduceMul, Int.reduceNeg, Int.reducePow, Int.reduceSub, Int.reduceToNat, Nat.reduceAdd, Nat.reduceEqDiff, Nat.reduceLT, Nat.reduceLeDiff, Nat.reduceMul, reduceCtorEq, h5, Int.natCast_add], by omega, rfl, hst⟩
    · have hie : i = k := by omega
      subst hie
      rw [if_neg (fun h => h (by rw [cast_mod]; exact hmod))] at hK
      clear hN
      simp (disch := omega) only [wu64, wu32, wu8, fdiv_nn, EO, ↓EP, EQ, EM, ↓reduceIte, Int.reduceAdd, Int.reduceEq, Int.reduceLE, Int.reduceLT, Int.reduceMul, Int.reduceNeg, Int.reducePow, Int.reduceSub, Int.reduceToNat, Nat.reduceAdd, Nat.reduceEqDiff, Nat.reduceLT, Nat.reduceLeDiff, Nat.reduceMul, reduceCtorEq, h5, r0, c0]
      intro m1
      refine al_k (nums .u8 []) rfl fun w1 n1 => ?_
      have g1 : Gw .u8 w' w1 (.slice (some ⟨(w'.drewN (1 + m1)).heap.size, 0, none⟩) 0 0) [] := ⟨n1.sl, fun b e => by cases e; exact Nat.le_refl _, (Fr.drewN w' (1 + m1) nob).nb (n1.fr nob)⟩
      have d1 := cellf w1 g1.fr
      simp (disch := omega) only [wu64, wu32, wu8, fdiv_nn, EO, ↓EP, EQ, EM, ↓reduceIte, Int.reduceAdd, Int.reduceEq, Int.reduceLE, Int.reduceLT, Int.reduceMul, Int.reduceNeg, Int.reducePow, Int.reduceSub, Int.reduceToNat, Nat.reduceAdd, Nat.reduceEqDiff, Nat.reduceLT, Nat.reduceLeDiff, Nat.reduceMul, reduceCtorEq, h5, r0, d1]
      intro m2
      have f2 := g1.fr.nb (Fr.drewN w1 m2 nob)
      refine app_num (g1.step (Fr.drewN w1 m2 nob)).sl (by simp) ((hr.nb f2).subA c 1 hc) (by simp; omega) (by omega) fun v3 w3 a3 => ?_
      have g3 := (g1.step (Fr.drewN w1 m2 nob)).apd a3
      rw [List.nil_append] at g3
      have d3 := cellf w3 g3.fr
      simp (disch := omega) only [wu64, wu32, wu8, fdiv_nn, EO, ↓EP, EQ, EM, ↓reduceIte, Int.reduceAdd, Int.reduceEq, Int.reduceLE, Int.reduceLT, Int.reduceMul, Int.reduceNeg, Int.reducePow, Int.reduceSub, Int.reduceToNat, Nat.reduceAdd, Nat.reduceEqDiff, Nat.reduceLT, Nat.reduceLeDiff, Nat.reduceMul, reduceCtorEq, h5, r0, d3]
      intro m4
      exact hK _ _ (g3.step (Fr.drewN w3 m4 nob))
end Go.Proofs.YtcflokckfjkdpaaDoor.Der
