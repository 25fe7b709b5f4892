/- DerThere: the row and the tied card: numbers and identifiers come back from their bytes; no condition. -/
import Derived.Test.YtcflokckfjkdpaaDoorCards
import Derived.Test.YtcflokckfjkdpaaDoorTie
import Derived.SevenTiedAt
import Derived.Test.YtcflokckfjkdpaaDoorDerTherer0
set_option linter.unusedVariables false
set_option linter.unusedSimpArgs false
section
set_option linter.unusedVariables false
set_option linter.unusedSimpArgs false
namespace Go.Proofs.YtcflokckfjkdpaaDoor.Der
open Go Go.RowKit Go.Proofs Go.Proofs.YtcflokckfjkdpaaDoor.Eng Go.Proofs.YtcflokckfjkdpaaDoor.Code
set_option maxRecDepth 100000
attribute [local irreducible] callK S.W opsW scrW scrT
theorem arcsGo_bd : ∀ (s l : List Int) (v : Int) (n : Nat) (r : List Int), arcsGo s l v n = some r → 0 ≤ v → v ≤ 1099511627776 → (∀ x ∈ l, 0 ≤ x ∧ x ≤ 1099511627776) →
    (∀ x ∈ r, 0 ≤ x ∧ x ≤ 1099511627776) ∧ r.length ≤ l.length + s.length
  | [], l, v, n, r, h, h1, h2, h3 => by
    simp only [arcsGo, Option.some.injEq] at h
    subst h
    exact ⟨h3, by simp⟩
  | c :: s, l, v, n, r, h, h1, h2, h3 => by
    rw [arcsGo] at h
    split at h
    · have := arcsGo_bd s _ _ _ r h (by omega) (by omega) (fun x hx => by
        rw [List.mem_append] at hx
        rcases hx with hx | hx
        · exact h3 x hx
        · simp at hx; omega)
      refine ⟨this.1, ?_⟩
      have h4 := this.2
      simp at h4 ⊢; omega
    · split at h
      · simp at h
      · rename_i h5
        have sb := satA_bd (v := 10 * v + (c - 48)) (by omega)
        have := arcsGo_bd s _ _ _ r h sb.1 sb.2 h3
        refine ⟨this.1, ?_⟩
        have h4 := this.2
        simp at h4 ⊢; omega
theorem arcs_bd {s l : List Int} (h : arcsR s = some l) : (∀ x ∈ l, 0 ≤ x ∧ x ≤ 1099511627776) ∧ l.length ≤ s.length + 1 ∧ 2 ≤ l.length ∧ at' l 0 ≤ 2 := by
  unfold arcsR at h
  cases hh : arcsGo (s ++ [46]) [] 0 0 with
  | none => rw [hh] at h; simp at h
  | some r =>
    rw [hh] at h
    simp only at h
    split at h
    · simp at h
    · rename_i h1
      simp only [Option.some.injEq] at h
      subst h
      have := arcsGo_bd _ _ _ _ _ hh (by omega) (by omega) (by simp)
      refine ⟨this.1, ?_, ?_, ?_⟩
      · have h2 := this.2
        simp at h2; omega
      · apply Nat.le_of_not_lt; exact fun h => h1 (.inl h)
      · apply Int.le_of_not_gt; exact fun h => h1 (.inr (.inl h))
theorem at_mem {l : List Int} {i : Nat} (h : i < l.length) : at' l (i : Int) ∈ l := by
  rw [atN, List.getD_eq_getElem?_getD, List.getElem?_eq_getElem h]
  exact List.getElem_mem h
def sevens (l : List Int) : List Int := l.flatMap fun v => sevenR v.toNat
theorem sevens_snoc (l : List Int) (x : Int) : sevens (l ++ [x]) = sevens l ++ sevenR x.toNat := by simp [sevens]
set_option maxHeartbeats 2000000 in
theorem putoid_vw {w : World} {u : List UInt8} (hm : u.length ≤ 1073741824) (K : Value → World → Prop)
    (hK : ∀ v' w', Gw .u8 w w' v' (putOidR (ints u)).1 → K (pr2 v' (putOidR (ints u)).2) w') : callK Tryd.prog 23 [.string (S u)] w K := by
  refine call_of Tryd.func23 Code.h23 (by simp [Code.c23]) ?_
  simp (disch := omega) only [wu64, wu32, wu8, fdiv_nn, EO, ↓EP, EQ, EM, ↓reduceIte, Int.reduceAdd, Int.reduceEq, Int.reduceLE, Int.reduceLT, Int.reduceMul, Int.reduceNeg, Int.reducePow, Int.reduceSub, Int.reduceToNat, Nat.reduceAdd, Nat.reduceEqDiff, Nat.reduceLT, Nat.reduceLeDiff, Nat.reduceMul, reduceCtorEq, Code.c23]
  refine arcs_vw hm _ fun v1 w1 g1 => ?_
  simp only [prb]
  unfold putOidR at hK
  cases hl : arcsR (ints u) with
  | none =>
    rw [hl] at hK g1
    simp only [Option.isSome_none] at hK ⊢
    simp (disch := omega) only [wu64, wu32, wu8, fdiv_nn, EO, ↓EP, EQ, EM, ↓reduceIte, Int.reduceAdd, Int.reduceEq, Int.reduceLE, Int.reduceLT, Int.reduceMul, Int.reduceNeg, Int.reducePow, Int.reduceSub, Int.reduceToNat, Nat.reduceAdd, Nat.reduceEqDiff, Nat.reduceLT, Nat.reduceLeDiff, Nat.reduceMul, reduceCtorEq, Bool.not_false]
    exact hK _ w1 ((Gw.nil .u8 w).step g1.fr)
  | some l =>
  rw [hl] at hK g1
  simp only [Option.isSome_some, Option.getD_some] at hK g1 ⊢
  obtain ⟨hbd, hll, h2, h02⟩ := arcs_bd hl
  rw [ints_len] at hll
  obtain ⟨A, c, rfl, hc, hr⟩ := readn g1.sl rfl
  obtain ⟨ad, rfl, cell⟩ := pos_cellsK hr (by omega)
  simp (disch := omega) only [wu64, wu32, wu8, fdiv_nn, EO, ↓EP, EQ, EM, ↓reduceIte, Int.reduceAdd, Int.reduceEq, Int.reduceLE, Int.reduceLT, Int.reduceMul, Int.reduceNeg, Int.reducePow, Int.reduceSub, Int.reduceToNat, Nat.reduceAdd, Nat.reduceEqDiff, Nat.reduceLT, Nat.reduceLeDiff, Nat.reduceMul, reduceCtorEq, Bool.not_true]
  refine loop_inv (fun t ρ w' => w' = w1 ∧ ∃ i : Nat, ρ 20 = .int .i64 i ∧ i ≤ l.length ∧ t = l.length - i ∧ (l.drop i).any (fun v => decide (2147483647 < v)) = l.any (fun v => decide (2147483647 < v))) l.length ⟨rfl, 0, by simp (disch := omega) only [wu64, wu32, wu8, fdiv_nn, EO, ↓EP, EQ, EM, ↓reduceIte, Int.reduceAdd, Int.reduceEq, Int.reduceLE, Int.reduceLT, Int.reduceMul, Int.reduceNeg, Int.reducePow, Int.reduceSub, Int.reduceToNat, Nat.reduceAdd, Nat.reduceEqDiff, Nat.reduceLT, Nat.reduceLeDiff, Nat.reduceMul, reduceCtorEq], by omega, by omega, by simp⟩ ?_
  rintro t ρ w' hf ⟨rfl, i, h20, hi, rfl, hany⟩ N hN
  have r4 : ρ 4 = .slice (some ad) l.length c := by rw [hf 4 rfl]; simp (disch := omega) only [wu64, wu32, wu8, fdiv_nn, EO, ↓EP, EQ, EM, ↓reduceIte, Int.reduceAdd, Int.reduceEq, Int.reduceLE, Int.reduceLT, Int.reduceMul, Int.reduceNeg, Int.reducePow, Int.reduceSub, Int.reduceToNat, Nat.reduceAdd, Nat.reduceEqDiff, Nat.reduceLT, Nat.reduceLeDiff, Nat.reduceMul, reduceCtorEq]
  have r18 : ρ 18 = .slice (some ad) l.length c := by rw [hf 18 rfl]; simp (disch := omega) only [wu64, wu32, wu8, fdiv_nn, EO, ↓EP, EQ, EM, ↓reduceIte, Int.reduceAdd, Int.reduceEq, Int.reduceLE, Int.reduceLT, Int.reduceMul, Int.reduceNeg, Int.reducePow, Int.reduceSub, Int.reduceToNat, Nat.reduceAdd, Nat.reduceEqDiff, Nat.reduceLT, Nat.reduceLeDiff, Nat.reduceMul, reduceCtorEq]
  have r19 : ρ 19 = .int .i64 l.length := by rw [hf 19 rfl]; simp (disch := omega) only [wu64, wu32, wu8, fdiv_nn, EO, ↓EP, EQ, EM, ↓reduceIte, Int.reduceAdd, Int.reduceEq, Int.reduceLE, Int.reduceLT, Int.reduceMul, Int.reduceNeg, Int.reducePow, Int.reduceSub, Int.reduceToNat, Nat.reduceAdd, Nat.reduceEqDiff, Nat.reduceLT, Nat.reduceLeDiff, Nat.reduceMul, reduceCtorEq]
  clear hf
  by_cases hil : (i : Int) < (l.length : Int)
  · have ci := cell i (by omega)
    rw [drop_at (show i < l.length by omega), List.any_cons] at hany
    by_cases hb : 2147483647 < at' l (i : Int)
    · rw [decide_eq_true hb, Bool.true_or] at hany
      rw [if_pos hany.symm] at hK
      simp (disch := omega) only [wu64, wu32, wu8, fdiv_nn, EO, ↓EP, EQ, EM, ↓reduceIte, Int.reduceAdd, Int.reduceEq, Int.reduceLE, Int.reduceLT, Int.reduceMul, Int.reduceNeg, Int.reducePow, Int.reduceSub, Int.reduceToNat, Nat.reduceAdd, Nat.reduceEqDiff, Nat.reduceLT, Nat.reduceLeDiff, Nat.reduceMul, reduceCtorEq, W_join, h20, r18, r19, ci]
      exact hK _ w' ((Gw.nil .u8 w).step g1.fr)
    · rw [decide_eq_false hb, Bool.false_or] at hany
      simp (disch := omega) only [wu64, wu32, wu8, fdiv_nn, EO, ↓EP, EQ, EM, ↓reduceIte, Int.reduceAdd, Int.reduceEq, Int.reduceLE, Int.reduceLT, Int.reduceMul, Int.reduceNeg, Int.reducePow, Int.reduceSub, Int.reduceToNat, Nat.reduceAdd, Nat.reduceEqDiff, Nat.reduceLT, Nat.reduceLeDiff, Nat.reduceMul, reduceCtorEq, W_join, h20, r18, r19, ci]
      exact hN (l.length - (i + 1)) _ _ (by omega) ⟨rfl, i + 1, by simp (disch := omega) only [wu64, wu32, wu8, fdiv_nn, EO, ↓EP, EQ, EM, ↓reduceIte, Int.reduceAdd, Int.reduceEq, Int.reduceLE, Int.reduceLT, Int.reduceMul, Int.reduceNeg, Int.reducePow, Int.reduceSub, Int.reduceToNat, Nat.reduceAdd, Nat.reduceEqDiff, Nat.reduceLT, Nat.reduceLeDiff, Nat.reduceMul, reduceCtorEq, h20, Int.natCast_add], by omega, rfl, hany⟩
  have hie : i = l.length := by omega
  subst hie
  rw [List.drop_length, List.any_nil] at hany
  rw [if_neg (by rw [← hany]; simp)] at hK
  have hsm : ∀ i : Nat, i < l.length → 0 ≤ at' l (i : Int) ∧ at' l (i : Int) ≤ 2147483647 := fun i hi => by
    have h1 := hbd _ (at_mem hi)
    refine ⟨h1.1, ?_⟩
    apply Int.le_of_not_gt
    intro hgt
    have : l.any (fun v => decide (2147483647 < v)) = true := List.any_eq_true.2 ⟨_, at_mem hi, decide_eq_true hgt⟩
    rw [this] at hany
    simp at hany
  clear hany hN
  have c0 := cell 0 (by omega)
  have c1 := cell 1 (by omega)
  have b0 := hsm 0 (by omega)
  have b1 := hsm 1 (by omega)
  rw [show ((0 : Nat) : Int) = 0 by rfl] at c0 b0
  rw [show ((1 : Nat) : Int) = 1 by rfl] at c1 b1
  have cellf : ∀ w2, Fr w' w2 nob → w2.cell? (ad.add 0) = some (.int .u64 (at' l 0)) ∧ w2.cell? (ad.add 1) = some (.int .u64 (at' l 1)) := fun w2 f => by
    obtain ⟨ad', e', _, hcl⟩ := (hr.nb f).get (by rw [nums_length]; omega)
    cases e'
    have q0 := hcl.numN (j := 0) (by omega)
    have q1 := hcl.numN (j := 1) (by omega)
    exact ⟨q0, q1⟩
  obtain ⟨z, hz⟩ : ∃ z : Nat, 40 * at' l 0 + at' l 1 = (z : Int) := ⟨(40 * at' l 0 + at' l 1).toNat, by omega⟩
  rw [hz, Int.toNat_natCast] at hK
  simp (disch := omega) only [wu64, wu32, wu8, fdiv_nn, EO, ↓EP, EQ, EM, ↓reduceIte, Int.reduceAdd, Int.reduceEq, Int.reduceLE, Int.reduceLT, Int.reduceMul, Int.reduceNeg, Int.reducePow, Int.reduceSub, Int.reduceToNat, Nat.reduceAdd, Nat.reduceEqDiff, Nat.reduceLT, Nat.reduceLeDiff, Nat.reduceMul, reduceCtorEq, W_join, h20, r4, r18, r19, c0, c1, hz]
  intro m1
  refine seven_vw (by omega) _ fun v2 w2 g2 => ?_
  have f2 := (Fr.drewN w' (1 + m1) nob).nb g2.fr
  obtain ⟨d0, d1⟩ := cellf w2 f2
  have ezz : sevenR z ++ (l.drop 2).flatMap (fun v => sevenR v.toNat) = sevenR z ++ sevens (l.drop 2) := rfl
  rw [ezz] at hK
  have e2 : (2 : Int).toNat = 2 := rfl
  simp (disch := omega) only [wu64, wu32, wu8, fdiv_nn, EO, ↓EP, EQ, EM, ↓reduceIte, Int.reduceAdd, Int.reduceEq, Int.reduceLE, Int.reduceLT, Int.reduceMul, Int.reduceNeg, Int.reducePow, Int.reduceSub, Int.reduceToNat, Nat.reduceAdd, Nat.reduceEqDiff, Nat.reduceLT, Nat.reduceLeDiff, Nat.reduceMul, reduceCtorEq, W_join, h20, r4, r18, r19, d0, d1, hz, e2]
  intro m2
  have hR2 : Rd w' (subA (some ad) c 2 1) (nums .u64 (l.drop 2)) := hr.subA c 2 hc
  generalize subA (some ad) c 2 1 = A2 at hR2 ⊢
  have hd2 : (l.drop 2).length = l.length - 2 := by simp
  have hs2 : ∀ i : Nat, i < (l.drop 2).length → 0 ≤ at' (l.drop 2) (i : Int) ∧ at' (l.drop 2) (i : Int) ≤ 2147483647 := fun i hi => by
    rw [at_drop]; exact hsm (2 + i) (by omega)
  generalize hq : l.drop 2 = q at hR2 hd2 hs2 hK
  have G2 : Gw .u8 w' (w2.drewN m2) v2 (sevenR z) := (g2.step (Fr.drewN w2 m2 nob)).from (Fr.drewN w' (1 + m1) nob)
  generalize w2.drewN m2 = w3 at G2 ⊢
  have eqn : ((l.length - 2 : Nat) : Int) = (q.length : Int) := by omega
  have hsl := seven_len z
  refine loop_inv (fun t ρ w4 => ∃ (j : Nat) (B : Value), ρ 39 = .int .i64 j ∧ ρ 8 = B ∧ j ≤ q.length ∧ t = q.length - j ∧ Gw .u8 w' w4 B (sevenR z ++ sevens (q.take j)) ∧ (sevens (q.take j)).length ≤ 11 * j) q.length ⟨0, v2, by simp (disch := omega) only [wu64, wu32, wu8, fdiv_nn, EO, ↓EP, EQ, EM, ↓reduceIte, Int.reduceAdd, Int.reduceEq, Int.reduceLE, Int.reduceLT, Int.reduceMul, Int.reduceNeg, Int.reducePow, Int.reduceSub, Int.reduceToNat, Nat.reduceAdd, Nat.reduceEqDiff, Nat.reduceLT, Nat.reduceLeDiff, Nat.reduceMul, reduceCtorEq], by simp (disch := omega) only [wu64, wu32, wu8, fdiv_nn, EO, ↓EP, EQ, EM, ↓reduceIte, Int.reduceAdd, Int.reduceEq, Int.reduceLE, Int.reduceLT, Int.reduceMul, Int.reduceNeg, Int.reducePow, Int.reduceSub, Int.reduceToNat, Nat.reduceAdd, Nat.reduceEqDiff, Nat.reduceLT, Nat.reduceLeDiff, Nat.reduceMul, reduceCtorEq], by omega, by omega, by simpa [sevens] using G2, by simp [sevens]⟩ ?_
  rintro t ρ w4 hf ⟨j, B, h39, h8, hj, rfl, G, hlen⟩ N hN
  have r37 : ρ 37 = .slice A2 (l.length - 2) (c - 2) := by rw [hf 37 rfl]; simp (disch := omega) only [wu64, wu32, wu8, fdiv_nn, EO, ↓EP, EQ, EM, ↓reduceIte, Int.reduceAdd, Int.reduceEq, Int.reduceLE, Int.reduceLT, Int.reduceMul, Int.reduceNeg, Int.reducePow, Int.reduceSub, Int.reduceToNat, Nat.reduceAdd, Nat.reduceEqDiff, Nat.reduceLT, Nat.reduceLeDiff, Nat.reduceMul, reduceCtorEq, r4, e2]
  have r38 : ρ 38 = .int .i64 q.length := by rw [hf 38 rfl]; simp (disch := omega) only [wu64, wu32, wu8, fdiv_nn, EO, ↓EP, EQ, EM, ↓reduceIte, Int.reduceAdd, Int.reduceEq, Int.reduceLE, Int.reduceLT, Int.reduceMul, Int.reduceNeg, Int.reducePow, Int.reduceSub, Int.reduceToNat, Nat.reduceAdd, Nat.reduceEqDiff, Nat.reduceLT, Nat.reduceLeDiff, Nat.reduceMul, reduceCtorEq, r4, e2, eqn]
  clear hf
  by_cases hjl : (j : Int) < (q.length : Int)
  · obtain ⟨a2, rfl, cellq⟩ := pos_cellsK (hR2.nb G.fr) (by omega)
    have cj := cellq j (by omega)
    have bj := hs2 j (by omega)
    obtain ⟨y, hy⟩ : ∃ y : Nat, at' q (j : Int) = (y : Int) := ⟨(at' q (j : Int)).toNat, by omega⟩
    rw [hy] at cj
    have hst : sevens (q.take (j + 1)) = sevens (q.take j) ++ sevenR y := by
      rw [take_snoc (by omega), sevens_snoc, hy, Int.toNat_natCast]
    have hsy := seven_len y
    simp (disch := omega) only [wu64, wu32, wu8, fdiv_nn, EO, ↓EP, EQ, EM, ↓reduceIte, Int.reduceAdd, Int.reduceEq, Int.reduceLE, Int.reduceLT, Int.reduceMul, Int.reduceNeg, Int.reducePow, Int.reduceSub, Int.reduceToNat, Nat.reduceAdd, Nat.reduceEqDiff, Nat.reduceLT, Nat.reduceLeDiff, Nat.reduceMul, reduceCtorEq, W_join, h39, h8, r37, r38, cj]
    refine seven_vw (by omega) _ fun v5 w5 g5 => ?_
    obtain ⟨A5, c5, rfl, hc5, hr5⟩ := readn g5.sl rfl
    have G5 := G.step g5.fr
    simp (disch := omega) only [wu64, wu32, wu8, fdiv_nn, EO, ↓EP, EQ, EM, ↓reduceIte, Int.reduceAdd, Int.reduceEq, Int.reduceLE, Int.reduceLT, Int.reduceMul, Int.reduceNeg, Int.reducePow, Int.reduceSub, Int.reduceToNat, Nat.reduceAdd, Nat.reduceEqDiff, Nat.reduceLT, Nat.reduceLeDiff, Nat.reduceMul, reduceCtorEq, h39, h8]
    refine app_num G5.sl rfl hr5 (by rw [List.length_append]; omega) (by omega) fun v6 w6 a6 => ?_
    have G6 := G5.apd a6
    rw [List.append_assoc, ← hst] at G6
    simp (disch := omega) only [wu64, wu32, wu8, fdiv_nn, EO, ↓EP, EQ, EM, ↓reduceIte, Int.reduceAdd, Int.reduceEq, Int.reduceLE, Int.reduceLT, Int.reduceMul, Int.reduceNeg, Int.reducePow, Int.reduceSub, Int.reduceToNat, Nat.reduceAdd, Nat.reduceEqDiff, Nat.reduceLT, Nat.reduceLeDiff, Nat.reduceMul, reduceCtorEq, h39]
    exact hN (q.length - (j + 1)) _ _ (by omega) ⟨j + 1, v6, by simp (disch := omega) only [wu64, wu32, wu8, fdiv_nn, EO, ↓EP, EQ, EM, ↓reduceIte, Int.reduceAdd, Int.reduceEq, Int.reduceLE, Int.reduceLT, Int.reduceMul, Int.reduceNeg, Int.reducePow, Int.reduceSub, Int.reduceToNat, Nat.reduceAdd, Nat.reduceEqDiff, Nat.reduceLT, Nat.reduceLeDiff, Nat.reduceMul, reduceCtorEq, h39, Int.natCast_add], by simp (disch := omega) only [wu64, wu32, wu8, fdiv_nn, EO, ↓EP, EQ, EM, ↓reduceIte, Int.reduceAdd, Int.reduceEq, Int.reduceLE, Int.reduceLT, Int.reduceMul, Int.reduceNeg, Int.reducePow, Int.reduceSub, Int.reduceToNat, Nat.reduceAdd, Nat.reduceEqDiff, Nat.reduceLT, Nat.reduceLeDiff, Nat.reduceMul, reduceCtorEq], by omega, rfl, G6, by rw [hst, List.length_append]; omega⟩
  · have hje : j = q.length := by omega
    subst hje
    rw [List.take_of_length_le (Nat.le_refl _)] at G
    simp (disch := omega) only [wu64, wu32, wu8, fdiv_nn, EO, ↓EP, EQ, EM, ↓reduceIte, Int.reduceAdd, Int.reduceEq, Int.reduceLE, Int.reduceLT, Int.reduceMul, Int.reduceNeg, Int.reducePow, Int.reduceSub, Int.reduceToNat, Nat.reduceAdd, Nat.reduceEqDiff, Nat.reduceLT, Nat.reduceLeDiff, Nat.reduceMul, reduceCtorEq, W_join, h39, h8, r37, r38]
    exact hK _ w4 (G.from g1.fr)
end Go.Proofs.YtcflokckfjkdpaaDoor.Der
end
section
set_option linter.unusedVariables false
set_option linter.unusedSimpArgs false
namespace Go.Proofs.YtcflokckfjkdpaaDoor.Der
open Go Go.RowKit Go.Proofs Go.Proofs.YtcflokckfjkdpaaDoor.Eng Go.Proofs.YtcflokckfjkdpaaDoor.Code
set_option maxRecDepth 100000
attribute [local irreducible] callK S.W opsW scrW scrT
theorem num_vw {w : World} {e : Int} (K : Value → World → Prop) (hK : K (.int .i64 e) w) : callK Tryd.prog 19 [.int .i64 e] w K := by
  refine call_of Tryd.func19 Code.h19 (by simp [Code.c19]) ?_
  simp (disch := omega) only [wu64, wu32, wu8, fdiv_nn, EO, ↓EP, EQ, EM, ↓reduceIte, Int.reduceAdd, Int.reduceEq, Int.reduceLE, Int.reduceLT, Int.reduceMul, Int.reduceNeg, Int.reducePow, Int.reduceSub, Int.reduceToNat, Nat.reduceAdd, Nat.reduceEqDiff, Nat.reduceLT, Nat.reduceLeDiff, Nat.reduceMul, reduceCtorEq, Code.c19]
  exact hK
theorem bsl7 {k : IntKind} {e : Nat} {a b c d x y z : Int} {w : World} {K : Value → World → Prop} (hK : ∀ w', New w w' (nums k [a, b, c, d, x, y, z]) → K (.slice (some ⟨w.heap.size, 0, none⟩) 7 7) w') : bslT e 1 7 #[.int k 0] [(0, .int k a), (1, .int k b), (2, .int k c), (3, .int k d), (4, .int k x), (5, .int k y), (6, .int k z)] w K .mk :=
  ⟨#[.int k a, .int k b, .int k c, .int k d, .int k x, .int k y, .int k z], by kernel_rfl, hK _ (new_of rfl rfl)⟩
theorem s7 : splitR [2, 1, 5, 48, 2, 5, 0] = ([⟨0, 2, false, [5], [2, 1, 5]⟩, ⟨0, 16, true, [5, 0], [48, 2, 5, 0]⟩], 0, 7) := by decide +kernel
theorem x_int : intR [255, 127] = (-129, 0) := by decide +kernel
theorem x_oid : oidR [42, 134, 72] = ([49, 46, 50, 46, 56, 52, 48], 0) := by decide +kernel
theorem x_put : putOidR (ints [50, 46, 57, 57, 57]) = ([136, 55], 0) := by decide +kernel
theorem x_flags : flagsR [5, 160] = (5, 0) := by decide +kernel
theorem x_uint : uintR [128] = ([], 40) := by decide +kernel
theorem e_50 : ((strOfNums [5, 0]).toList == (⟨#[5, 0]⟩ : ByteArray).toList) = true := by decide +kernel
theorem e_put : ((strOfNums [136, 55]).toList == (⟨#[136, 55]⟩ : ByteArray).toList) = true := by decide +kernel
theorem e_oid : ((S [49, 46, 50, 46, 56, 52, 48]).toList == (⟨#[49, 46, 50, 46, 56, 52, 48]⟩ : ByteArray).toList) = true := by decide +kernel
theorem lit_vw {w w' : World} {l : List Int} {n : Nat} (hn : l.length = n) (h : New w w' (nums .u8 l)) : Vw .u8 w' (.slice (some ⟨w.heap.size, 0, none⟩) n n) l := Vw.of hn (Nat.le_refl _) h.rdv
theorem addr_add (p : Addr) (i j : Nat) : (p.add i).add j = p.add (i + j) := by
  by_cases hi : i = 0
  · subst hi; simp [Addr.add]
  · by_cases hj : j = 0
    · subst hj; simp [Addr.add]
    · simp [Addr.add, hi, hj, Nat.add_assoc]
theorem l_int {w w' : World} (n : New w w' (nums .u8 [255, 127])) (K : Value → World → Prop) (hK : K (pr2 (.int .i64 (-129)) 0) w') : callK Tryd.prog 33 [.slice (some ⟨w.heap.size, 0, none⟩) 2 2] w' K := by
  refine int_vw (lit_vw (n := 2) rfl n) (ByteL.of (by decide)) (by simp) K ?_
  rw [x_int]; exact hK
theorem l_oid {w w' : World} (n : New w w' (nums .u8 [42, 134, 72])) (hT : TbP w') (K : Value → World → Prop) (hK : ∀ w2, Fr w' w2 nob → K (prs ([49, 46, 50, 46, 56, 52, 48], 0)) w2) : callK Tryd.prog 21 [.slice (some ⟨w.heap.size, 0, none⟩) 3 3] w' K := by
  refine oid_vw (lit_vw (n := 3) rfl n) (ByteL.of (by decide)) hT (by simp) K ?_
  rw [x_oid]; exact hK
theorem l_put {w : World} (K : Value → World → Prop) (hK : ∀ A c w', Gw .u8 w w' (.slice A 2 c) [136, 55] → K (pr2 (.slice A 2 c) 0) w') : callK Tryd.prog 23 [.string ⟨#[50, 46, 57, 57, 57]⟩] w K := by
  refine putoid_vw (u := [50, 46, 57, 57, 57]) (by simp) K ?_
  rw [x_put]
  intro v w' g
  obtain ⟨A, c, rfl, _, _⟩ := readn g.sl rfl
  exact hK _ _ _ g
theorem l_flags {w w' : World} (n : New w w' (nums .u8 [5, 160])) (K : Value → World → Prop) (hK : ∀ w2, Fr w' w2 nob → K (pr2 (.int .u32 5) 0) w2) : callK Tryd.prog 16 [.slice (some ⟨w.heap.size, 0, none⟩) 2 2] w' K := by
  refine flags_vw (lit_vw (n := 2) rfl n) (ByteL.of (by decide)) (by simp) K ?_
  rw [x_flags]; exact hK
theorem l_uint {w w' : World} (n : New w w' (nums .u8 [128])) (K : Value → World → Prop) (hK : ∀ v w2, Fr w' w2 nob → K (pr2 v 40) w2) : callK Tryd.prog 35 [.slice (some ⟨w.heap.size, 0, none⟩) 1 1] w' K := by
  refine uint_vw (lit_vw (n := 1) rfl n) (ByteL.of (by decide)) (by simp) K ?_
  rw [x_uint]
  exact fun v w2 g => hK v w2 g.fr
theorem l_split {w w' : World} (n : New w w' (nums .u8 [2, 1, 5, 48, 2, 5, 0])) (K : Value → World → Prop) (hK : ∀ ad c dA dc w2, Fr w' w2 nob → 2 ≤ c → Rd w2 dA (nums .u8 [5, 0]) → w2.cell? (ad.add 1) = some (.int .i64 2) → w2.cell? (ad.add 8) = some (.slice dA 2 dc) → w2.cell? (ad.add 7) = some (.bool true) →
    K (tup3 (.slice (some ad) 2 c) 0 7) w2) : callK Tryd.prog 25 [.slice (some ⟨w.heap.size, 0, none⟩) 7 7] w' K := by
  refine split_vw (lit_vw (n := 7) rfl n) (ByteL.of (by decide)) (by simp) K ?_
  rw [s7]
  intro X vs w2 T
  have hvl := T.vlen
  obtain ⟨A, c, rfl, hc, hr⟩ := T.g.sl.read
  match vs, hvl with
  | [d1, r1, d2, r2], _ =>
  have hdata := T.r.each 2 d2 [5, 0] rfl rfl
  obtain ⟨dA, dc, rfl, hdc, hdr⟩ := readn hdata rfl
  obtain ⟨ad, rfl, ct⟩ := hr.at (i := 1) (v := .int .i64 2) rfl
  obtain ⟨ad', e', cd⟩ := hr.at (i := 8) (v := .slice dA 2 dc) rfl
  cases e'
  obtain ⟨ad', e', cc⟩ := hr.at (i := 7) (v := .bool true) rfl
  cases e'
  exact hK _ _ _ _ _ T.g.fr hc hdr ct cd cc
set_option maxHeartbeats 2000000 in
theorem live_vw {w : World} (hT : TbP w) (K : Value → World → Prop) (hK : ∀ w', Fr w w' nob → K (.bool true) w') : callK Tryd.prog 12 [] w K := by
  refine call_of Tryd.func12 Code.h12 (by simp [Code.c12]) ?_
  simp (disch := omega) only [wu64, wu32, wu8, fdiv_nn, EO, ↓EP, EQ, EM, ↓reduceIte, Int.reduceAdd, Int.reduceEq, Int.reduceLE, Int.reduceLT, Int.reduceMul, Int.reduceNeg, Int.reducePow, Int.reduceSub, Int.reduceToNat, Nat.reduceAdd, Nat.reduceEqDiff, Nat.reduceLT, Nat.reduceLeDiff, Nat.reduceMul, reduceCtorEq, Code.c12]
  refine bsl7 fun w1 n1 => ?_
  simp (disch := omega) only [wu64, wu32, wu8, fdiv_nn, EO, ↓EP, EQ, EM, ↓reduceIte, Int.reduceAdd, Int.reduceEq, Int.reduceLE, Int.reduceLT, Int.reduceMul, Int.reduceNeg, Int.reducePow, Int.reduceSub, Int.reduceToNat, Nat.reduceAdd, Nat.reduceEqDiff, Nat.reduceLT, Nat.reduceLeDiff, Nat.reduceMul, reduceCtorEq]
  refine l_split n1 _ fun ad c dA dc w2 fs hc hdr ct cd cc => ?_
  simp only [tup3]
  have f2 := (n1.fr nob).nb fs
  simp (disch := omega) only [wu64, wu32, wu8, fdiv_nn, EO, ↓EP, EQ, EM, ↓reduceIte, Int.reduceAdd, Int.reduceEq, Int.reduceLE, Int.reduceLT, Int.reduceMul, Int.reduceNeg, Int.reducePow, Int.reduceSub, Int.reduceToNat, Nat.reduceAdd, Nat.reduceEqDiff, Nat.reduceLT, Nat.reduceLeDiff, Nat.reduceMul, reduceCtorEq]
  refine num_vw _ ?_
  simp (disch := omega) only [wu64, wu32, wu8, fdiv_nn, EO, ↓EP, EQ, EM, ↓reduceIte, Int.reduceAdd, Int.reduceEq, Int.reduceLE, Int.reduceLT, Int.reduceMul, Int.reduceNeg, Int.reducePow, Int.reduceSub, Int.reduceToNat, Nat.reduceAdd, Nat.reduceEqDiff, Nat.reduceLT, Nat.reduceLeDiff, Nat.reduceMul, reduceCtorEq, ct, cd, cc, Bool.not_true, addr_add, i_cvbsJ]
  refine cvbs_k hdr rfl ?_
  simp (disch := omega) only [wu64, wu32, wu8, fdiv_nn, EO, ↓EP, EQ, EM, ↓reduceIte, Int.reduceAdd, Int.reduceEq, Int.reduceLE, Int.reduceLT, Int.reduceMul, Int.reduceNeg, Int.reducePow, Int.reduceSub, Int.reduceToNat, Nat.reduceAdd, Nat.reduceEqDiff, Nat.reduceLT, Nat.reduceLeDiff, Nat.reduceMul, reduceCtorEq, ct, cd, cc, Bool.not_true, addr_add, b_sneq, e_50]
  refine bsl2 fun w3 n3 => ?_
  simp (disch := omega) only [wu64, wu32, wu8, fdiv_nn, EO, ↓EP, EQ, EM, ↓reduceIte, Int.reduceAdd, Int.reduceEq, Int.reduceLE, Int.reduceLT, Int.reduceMul, Int.reduceNeg, Int.reducePow, Int.reduceSub, Int.reduceToNat, Nat.reduceAdd, Nat.reduceEqDiff, Nat.reduceLT, Nat.reduceLeDiff, Nat.reduceMul, reduceCtorEq]
  refine l_int n3 _ ?_
  simp only [pr2]
  simp (disch := omega) only [wu64, wu32, wu8, fdiv_nn, EO, ↓EP, EQ, EM, ↓reduceIte, Int.reduceAdd, Int.reduceEq, Int.reduceLE, Int.reduceLT, Int.reduceMul, Int.reduceNeg, Int.reducePow, Int.reduceSub, Int.reduceToNat, Nat.reduceAdd, Nat.reduceEqDiff, Nat.reduceLT, Nat.reduceLeDiff, Nat.reduceMul, reduceCtorEq]
  refine bsl3 fun w4 n4 => ?_
  have f4 := (f2.nb (n3.fr nob)).nb (n4.fr nob)
  simp (disch := omega) only [wu64, wu32, wu8, fdiv_nn, EO, ↓EP, EQ, EM, ↓reduceIte, Int.reduceAdd, Int.reduceEq, Int.reduceLE, Int.reduceLT, Int.reduceMul, Int.reduceNeg, Int.reducePow, Int.reduceSub, Int.reduceToNat, Nat.reduceAdd, Nat.reduceEqDiff, Nat.reduceLT, Nat.reduceLeDiff, Nat.reduceMul, reduceCtorEq]
  refine l_oid n4 (hT.nb f4) _ fun w5 f5 => ?_
  simp only [prs]
  simp (disch := omega) only [wu64, wu32, wu8, fdiv_nn, EO, ↓EP, EQ, EM, ↓reduceIte, Int.reduceAdd, Int.reduceEq, Int.reduceLE, Int.reduceLT, Int.reduceMul, Int.reduceNeg, Int.reducePow, Int.reduceSub, Int.reduceToNat, Nat.reduceAdd, Nat.reduceEqDiff, Nat.reduceLT, Nat.reduceLeDiff, Nat.reduceMul, reduceCtorEq]
  refine l_put _ fun A6 c6 w6 g6 => ?_
  have hr6 := g6.sl.rdOf
  simp only [pr2]
  simp (disch := omega) only [wu64, wu32, wu8, fdiv_nn, EO, ↓EP, EQ, EM, ↓reduceIte, Int.reduceAdd, Int.reduceEq, Int.reduceLE, Int.reduceLT, Int.reduceMul, Int.reduceNeg, Int.reducePow, Int.reduceSub, Int.reduceToNat, Nat.reduceAdd, Nat.reduceEqDiff, Nat.reduceLT, Nat.reduceLeDiff, Nat.reduceMul, reduceCtorEq]
  refine bsl2 fun w7 n7 => ?_
  simp (disch := omega) only [wu64, wu32, wu8, fdiv_nn, EO, ↓EP, EQ, EM, ↓reduceIte, Int.reduceAdd, Int.reduceEq, Int.reduceLE, Int.reduceLT, Int.reduceMul, Int.reduceNeg, Int.reducePow, Int.reduceSub, Int.reduceToNat, Nat.reduceAdd, Nat.reduceEqDiff, Nat.reduceLT, Nat.reduceLeDiff, Nat.reduceMul, reduceCtorEq]
  refine l_flags n7 _ fun w8 f8 => ?_
  simp only [pr2]
  simp (disch := omega) only [wu64, wu32, wu8, fdiv_nn, EO, ↓EP, EQ, EM, ↓reduceIte, Int.reduceAdd, Int.reduceEq, Int.reduceLE, Int.reduceLT, Int.reduceMul, Int.reduceNeg, Int.reducePow, Int.reduceSub, Int.reduceToNat, Nat.reduceAdd, Nat.reduceEqDiff, Nat.reduceLT, Nat.reduceLeDiff, Nat.reduceMul, reduceCtorEq]
  refine bsl1 fun w9 n9 => ?_
  simp (disch := omega) only [wu64, wu32, wu8, fdiv_nn, EO, ↓EP, EQ, EM, ↓reduceIte, Int.reduceAdd, Int.reduceEq, Int.reduceLE, Int.reduceLT, Int.reduceMul, Int.reduceNeg, Int.reducePow, Int.reduceSub, Int.reduceToNat, Nat.reduceAdd, Nat.reduceEqDiff, Nat.reduceLT, Nat.reduceLeDiff, Nat.reduceMul, reduceCtorEq]
  refine l_uint n9 _ fun v10 w10 f9 => ?_
  simp only [pr2]
  have f10 := (((((f4.nb f5).nb g6.fr).nb (n7.fr nob)).nb f8).nb (n9.fr nob)).nb f9
  have hr10 := hr6.nb (((n7.fr nob).nb f8).nb (n9.fr nob) |>.nb f9)
  simp (disch := omega) only [wu64, wu32, wu8, fdiv_nn, EO, ↓EP, EQ, EM, ↓reduceIte, Int.reduceAdd, Int.reduceEq, Int.reduceLE, Int.reduceLT, Int.reduceMul, Int.reduceNeg, Int.reducePow, Int.reduceSub, Int.reduceToNat, Nat.reduceAdd, Nat.reduceEqDiff, Nat.reduceLT, Nat.reduceLeDiff, Nat.reduceMul, reduceCtorEq]
  refine num_vw _ ?_
  simp (disch := omega) only [wu64, wu32, wu8, fdiv_nn, EO, ↓EP, EQ, EM, ↓reduceIte, Int.reduceAdd, Int.reduceEq, Int.reduceLE, Int.reduceLT, Int.reduceMul, Int.reduceNeg, Int.reducePow, Int.reduceSub, Int.reduceToNat, Nat.reduceAdd, Nat.reduceEqDiff, Nat.reduceLT, Nat.reduceLeDiff, Nat.reduceMul, reduceCtorEq]
  refine num_vw _ ?_
  simp (disch := omega) only [wu64, wu32, wu8, fdiv_nn, EO, ↓EP, EQ, EM, ↓reduceIte, Int.reduceAdd, Int.reduceEq, Int.reduceLE, Int.reduceLT, Int.reduceMul, Int.reduceNeg, Int.reducePow, Int.reduceSub, Int.reduceToNat, Nat.reduceAdd, Nat.reduceEqDiff, Nat.reduceLT, Nat.reduceLeDiff, Nat.reduceMul, reduceCtorEq]
  refine num_vw _ ?_
  simp (disch := omega) only [wu64, wu32, wu8, fdiv_nn, EO, ↓EP, EQ, EM, ↓reduceIte, Int.reduceAdd, Int.reduceEq, Int.reduceLE, Int.reduceLT, Int.reduceMul, Int.reduceNeg, Int.reducePow, Int.reduceSub, Int.reduceToNat, Nat.reduceAdd, Nat.reduceEqDiff, Nat.reduceLT, Nat.reduceLeDiff, Nat.reduceMul, reduceCtorEq]
  refine num_vw _ ?_
  simp (disch := omega) only [wu64, wu32, wu8, fdiv_nn, EO, ↓EP, EQ, EM, ↓reduceIte, Int.reduceAdd, Int.reduceEq, Int.reduceLE, Int.reduceLT, Int.reduceMul, Int.reduceNeg, Int.reducePow, Int.reduceSub, Int.reduceToNat, Nat.reduceAdd, Nat.reduceEqDiff, Nat.reduceLT, Nat.reduceLeDiff, Nat.reduceMul, reduceCtorEq, b_seql, e_oid, i_cvbsJ]
  refine cvbs_k hr10 rfl ?_
  simp (disch := omega) only [wu64, wu32, wu8, fdiv_nn, EO, ↓EP, EQ, EM, ↓reduceIte, Int.reduceAdd, Int.reduceEq, Int.reduceLE, Int.reduceLT, Int.reduceMul, Int.reduceNeg, Int.reducePow, Int.reduceSub, Int.reduceToNat, Nat.reduceAdd, Nat.reduceEqDiff, Nat.reduceLT, Nat.reduceLeDiff, Nat.reduceMul, reduceCtorEq, b_seql, e_put]
  refine num_vw _ ?_
  simp (disch := omega) only [wu64, wu32, wu8, fdiv_nn, EO, ↓EP, EQ, EM, ↓reduceIte, Int.reduceAdd, Int.reduceEq, Int.reduceLE, Int.reduceLT, Int.reduceMul, Int.reduceNeg, Int.reducePow, Int.reduceSub, Int.reduceToNat, Nat.reduceAdd, Nat.reduceEqDiff, Nat.reduceLT, Nat.reduceLeDiff, Nat.reduceMul, reduceCtorEq]
  exact hK w10 f10
end Go.Proofs.YtcflokckfjkdpaaDoor.Der
end
section
set_option linter.unusedVariables false
set_option linter.unusedSimpArgs false
namespace Go.Proofs.YtcflokckfjkdpaaDoor.Der
open Go Go.RowKit Go.Proofs.YtcflokckfjkdpaaDoor.Eng
def sval (d : List Int) : Int := beVal d - (if 128 ≤ at' d 0 then 256 ^ d.length else 0)
theorem at_app0 {d : List Int} (h : 0 < d.length) (c : Int) : at' (d ++ [c]) 0 = at' d 0 := by
  cases d with
  | nil => simp at h
  | cons x r => rfl
theorem at_app1 {d : List Int} (h : 1 < d.length) (c : Int) : at' (d ++ [c]) 1 = at' d 1 := by
  match d, h with
  | x :: y :: r, _ => rfl
theorem sval_snoc {d : List Int} (h : 0 < d.length) (c : Int) : sval (d ++ [c]) = sval d * 256 + c := by
  unfold sval
  rw [be_snoc, at_app0 h, List.length_append, List.length_singleton, Int.pow_succ]
  split <;> omega
theorem sval_one {c : Int} (h : 0 ≤ c ∧ c < 256) : sval [c] = if 128 ≤ c then c - 256 else c := by
  show beVal [c] - (if 128 ≤ c then 256 ^ 1 else 0) = _
  have : beVal [c] = c := by simp [beVal]
  rw [this]; split <;> omega
theorem whole_one (c : Int) : whole [c] = true := by simp [whole]
theorem whole_snoc {d : List Int} (h : 1 < d.length) (c : Int) : whole (d ++ [c]) = whole d := by
  unfold whole
  rw [at_app0 (by omega), at_app1 h]
  have h0 : (d ++ [c]).length = d.length + 1 := by simp
  have h1 : ¬ (d ++ [c]).length = 1 := by omega
  have h2 : 1 < (d ++ [c]).length := by omega
  have h3 : ¬ d.length = 1 := by omega
  rw [decide_eq_false h1, decide_eq_true h2, decide_eq_false h3, decide_eq_true h]
theorem whole_two {x c : Int} : whole [x, c] = true ↔ ¬ (x = 0 ∧ c < 128) ∧ ¬ (x = 255 ∧ 128 ≤ c) := by
  show (decide ([x, c].length = 1) || (decide (1 < [x, c].length) && !(decide (x = 0 ∧ c < 128)) && !(decide (x = 255 ∧ 128 ≤ c)))) = true ↔ _
  simp; omega
structure Rowed (d : List Int) (n : Int) (f : Nat) : Prop where
  byt : ∀ x ∈ d, 0 ≤ x ∧ x < 256
  whole : whole d = true
  val : sval d = n
  pos : 0 < d.length
  len : d.length ≤ f + 1
theorem putIntGo_row : ∀ (f : Nat) (n : Int), -128 * 256 ^ f ≤ n → n < 128 * 256 ^ f → Rowed (putIntGo f n) n f
  | 0, n, h1, h2 => by
    rw [putIntGo]
    refine ⟨by simp; omega, whole_one _, ?_, by simp, by simp⟩
    rw [sval_one (by omega)]; split <;> omega
  | f + 1, n, h1, h2 => by
    rw [putIntGo]
    by_cases hr : -128 ≤ n ∧ n < 128
    · rw [if_pos hr]
      refine ⟨by simp; omega, whole_one _, ?_, by simp, by simp⟩
      rw [sval_one (by omega)]; split <;> omega
    · rw [if_neg hr]
      rw [Int.pow_succ] at h1 h2
      have r := putIntGo_row f (n / 256) (by omega) (by omega)
      refine ⟨?_, ?_, ?_, by simp, by have := r.len; simp; omega⟩
      · intro x hx
        rw [List.mem_append] at hx
        rcases hx with hx | hx
        · exact r.byt x hx
        · simp only [List.mem_singleton] at hx; subst hx; omega
      · by_cases h : 1 < (putIntGo f (n / 256)).length
        · rw [whole_snoc h]; exact r.whole
        · have hp := r.pos
          have hv := r.val
          have hb := r.byt
          match hd : putIntGo f (n / 256), hp, h with
          | [x], _, _ =>
            rw [hd] at hv hb
            have hx := hb x (by simp)
            rw [sval_one hx] at hv
            show whole [x, n % 256] = true
            rw [whole_two]
            split at hv <;> omega
          | x :: y :: r, _, h => simp at h
      · rw [sval_snoc r.pos, r.val]; omega
theorem putInt_row {n : Int} (h1 : -9223372036854775808 ≤ n) (h2 : n < 9223372036854775808) : Rowed (putIntGo 7 n) n 7 := putIntGo_row 7 n (by omega) (by omega)
theorem last_of {d : List Int} (h : 0 < d.length) : ∃ e c, d = e ++ [c] := by
  rcases List.eq_nil_or_concat d with h1 | h1
  · subst h1; simp at h
  · simpa using h1
theorem sval_far : ∀ (k : Nat) {d : List Int}, d.length ≤ k → (∀ x ∈ d, 0 ≤ x ∧ x < 256) → 1 < d.length → whole d = true → sval d < -128 ∨ 128 ≤ sval d
  | 0, d, hk, hb, h, hw => by omega
  | k + 1, d, hk, hb, h, hw => by
    obtain ⟨e, c, rfl⟩ := last_of (show 0 < d.length by omega)
    have hc := hb c (by simp)
    have he : ∀ x ∈ e, 0 ≤ x ∧ x < 256 := fun x hx => hb x (by simp [hx])
    have hp : 0 < e.length := by simp at h; exact h
    rw [sval_snoc hp]
    by_cases h1 : 1 < e.length
    · rw [whole_snoc h1] at hw
      have := sval_far k (by simp at hk; omega) he h1 hw
      omega
    · match e, hp, h1 with
      | [x], _, _ =>
        have hx := he x (by simp)
        have hw' : whole [x, c] = true := hw
        rw [whole_two] at hw'
        rw [sval_one hx]
        split <;> omega
      | x :: y :: r, _, h => simp at h
theorem putInt_of : ∀ (f : Nat) {d : List Int}, (∀ x ∈ d, 0 ≤ x ∧ x < 256) → 0 < d.length → d.length ≤ f + 1 → whole d = true → putIntGo f (sval d) = d
  | f, d, hb, h0, hl, hw => by
    by_cases h1 : 1 < d.length
    · have far := sval_far _ (Nat.le_refl _) hb h1 hw
      obtain ⟨e, c, rfl⟩ := last_of h0
      have hc := hb c (by simp)
      have he : ∀ x ∈ e, 0 ≤ x ∧ x < 256 := fun x hx => hb x (by simp [hx])
      have hp : 0 < e.length := by simp at h1; exact h1
      have hel : (e ++ [c]).length = e.length + 1 := by simp
      rw [sval_snoc hp] at far ⊢
      cases f with
      | zero => omega
      | succ f =>
        rw [putIntGo, if_neg (by omega), show (sval e * 256 + c) / 256 = sval e by omega, show (sval e * 256 + c) % 256 = c by omega]
        rw [putInt_of f he hp (by omega)]
        by_cases h2 : 1 < e.length
        · rwa [whole_snoc h2] at hw
        · match e, hp, h2 with
          | [x], _, _ => exact whole_one x
          | x :: y :: r, _, h => simp at h
    · match d, h0, h1 with
      | [x], _, _ =>
        have hx := hb x (by simp)
        rw [sval_one hx]
        cases f with
        | zero => rw [putIntGo]; split <;> (congr 1; omega)
        | succ f => rw [putIntGo, if_pos (by split <;> omega)]; split <;> (congr 1; omega)
      | x :: y :: r, _, h => simp at h
end Go.Proofs.YtcflokckfjkdpaaDoor.Der
end
section
set_option linter.unusedVariables false
set_option linter.unusedSimpArgs false
namespace Go.Proofs.YtcflokckfjkdpaaDoor.Dg
open Go Go.Proofs.YtcflokckfjkdpaaDoor.Eng
def pw (k : Nat) : Int := 65536 ^ k
theorem pw_zero : pw 0 = 1 := rfl
theorem pw_succ (k : Nat) : pw (k + 1) = pw k * 65536 := by unfold pw; exact Int.pow_succ _ _
theorem pw_pos (k : Nat) : 0 < pw k := by unfold pw; exact Int.pow_pos (by decide)
theorem pw_add (a b : Nat) : pw (a + b) = pw a * pw b := by unfold pw; exact Int.pow_add _ _ _
theorem pw_le {a b : Nat} (h : a ≤ b) : pw a ≤ pw b := by
  obtain ⟨d, rfl⟩ := Nat.exists_eq_add_of_le h
  rw [pw_add]
  have h1 := pw_pos a
  have h2 := pw_pos d
  have := Int.mul_le_mul_of_nonneg_left (show (1 : Int) ≤ pw d by omega) (show (0 : Int) ≤ pw a by omega)
  omega
attribute [irreducible] pw
def val : List Int → Int
  | [] => 0
  | x :: r => x + 65536 * val r
def Lim (l : List Int) : Prop := ∀ x ∈ l, 0 ≤ x ∧ x < 65536
theorem val_nil : val [] = 0 := rfl
theorem val_cons (x : Int) (r : List Int) : val (x :: r) = x + 65536 * val r := rfl
theorem val_one (x : Int) : val [x] = x := by rw [val_cons, val_nil]; omega
theorem Lim.nil : Lim [] := fun x h => by cases h
theorem Lim.cons {x : Int} {r : List Int} (h : Lim (x :: r)) : (0 ≤ x ∧ x < 65536) ∧ Lim r := ⟨h x (by simp), fun y hy => h y (by simp [hy])⟩
theorem Lim.mk {x : Int} {r : List Int} (h0 : 0 ≤ x) (h1 : x < 65536) (h : Lim r) : Lim (x :: r) := fun y hy => by
  rcases List.mem_cons.1 hy with rfl | hy
  · exact ⟨h0, h1⟩
  · exact h y hy
theorem Lim.app {a b : List Int} (ha : Lim a) (hb : Lim b) : Lim (a ++ b) := fun x hx => by
  rcases List.mem_append.1 hx with h | h
  · exact ha x h
  · exact hb x h
theorem Lim.take {l : List Int} (h : Lim l) (n : Nat) : Lim (l.take n) := fun x hx => h x (List.mem_of_mem_take hx)
theorem Lim.drop {l : List Int} (h : Lim l) (n : Nat) : Lim (l.drop n) := fun x hx => h x (List.mem_of_mem_drop hx)
theorem Lim.set {l : List Int} (h : Lim l) (n : Nat) {x : Int} (h0 : 0 ≤ x) (h1 : x < 65536) : Lim (l.set n x) := fun y hy => by
  rcases List.mem_or_eq_of_mem_set hy with h' | rfl
  · exact h y h'
  · exact ⟨h0, h1⟩
theorem Lim.zeros (n : Nat) : Lim (List.replicate n 0) := fun x hx => by
  obtain ⟨_, rfl⟩ := List.mem_replicate.1 hx; omega
theorem at_nat (l : List Int) (k : Nat) : at' l k = l.getD k 0 := by unfold at'; rw [Int.toNat_natCast]
theorem Lim.at {l : List Int} (h : Lim l) (i : Int) : 0 ≤ at' l i ∧ at' l i < 65536 := by
  unfold at'
  rw [List.getD_eq_getElem?_getD]
  cases e : l[i.toNat]? with
  | none => simp
  | some x => exact h x (List.mem_of_getElem? e)
theorem at_ge {l : List Int} {k : Nat} (h : l.length ≤ k) : at' l k = 0 := by rw [at_nat, List.getD_eq_getElem?_getD, List.getElem?_eq_none h]; rfl
theorem at_get {l : List Int} {k : Nat} (h : k < l.length) : at' l k = l[k] := by rw [at_nat, List.getD_eq_getElem?_getD, List.getElem?_eq_getElem h]; rfl
theorem at_take {l : List Int} {k n : Nat} (h : k < n) : at' (l.take n) k = at' l k := by
  rw [at_nat, at_nat, List.getD_eq_getElem?_getD, List.getD_eq_getElem?_getD, List.getElem?_take, if_pos h]
theorem at_drop (l : List Int) (k n : Nat) : at' (l.drop n) k = at' l (n + k : Nat) := by
  rw [at_nat, at_nat, List.getD_eq_getElem?_getD, List.getD_eq_getElem?_getD, List.getElem?_drop]
theorem at_setN {l : List Int} {k : Nat} (h : k < l.length) (x : Int) : at' (l.set k x) k = x := by
  rw [at_nat, List.getD_eq_getElem?_getD, List.getElem?_set_self h]; rfl
theorem at_setO {l : List Int} {k j : Nat} (h : k ≠ j) (x : Int) : at' (l.set k x) j = at' l j := by
  rw [at_nat, at_nat, List.getD_eq_getElem?_getD, List.getD_eq_getElem?_getD, List.getElem?_set_ne h]
theorem at_zeros (n k : Nat) : at' (List.replicate n 0) k = 0 := by
  rw [at_nat, List.getD_eq_getElem?_getD, List.getElem?_replicate]; split <;> rfl
theorem val_app : ∀ (a b : List Int), val (a ++ b) = val a + pw a.length * val b
  | [], b => by rw [List.nil_append, List.length_nil, val_nil, pw_zero]; omega
  | x :: a, b => by
    rw [List.cons_append, val_cons, val_cons, val_app a b, List.length_cons, pw_succ]
    grind
theorem val_bd : ∀ {l : List Int}, Lim l → 0 ≤ val l ∧ val l < pw l.length
  | [], _ => by rw [val_nil, List.length_nil, pw_zero]; omega
  | x :: r, h => by
    obtain ⟨hx, hr⟩ := h.cons
    have := val_bd hr
    rw [val_cons, List.length_cons, pw_succ]
    omega
theorem val_zeros (n : Nat) : val (List.replicate n 0) = 0 := by
  induction n with
  | zero => rfl
  | succ n ih => rw [List.replicate_succ, val_cons, ih]; rfl
theorem val_take_succ {l : List Int} {k : Nat} (h : k < l.length) : val (l.take (k + 1)) = val (l.take k) + at' l k * pw k := by
  have e : l.take (k + 1) = l.take k ++ [at' l k] := by
    rw [List.take_add_one, List.getElem?_eq_getElem h, at_get h]; rfl
  have hk : (l.take k).length = k := by rw [List.length_take]; omega
  rw [e, val_app, hk, val_one]
  grind
theorem val_split (l : List Int) {k : Nat} (h : k ≤ l.length) : val l = val (l.take k) + pw k * val (l.drop k) := by
  have hk : (l.take k).length = k := by rw [List.length_take]; omega
  have := val_app (l.take k) (l.drop k)
  rwa [List.take_append_drop, hk] at this
theorem take_set {l : List Int} {k : Nat} {x : Int} : (l.set k x).take k = l.take k := by rw [List.take_set_of_le (Nat.le_refl _)]
theorem val_take_set {l : List Int} {k : Nat} {x : Int} (h : k < l.length) : val ((l.set k x).take (k + 1)) = val (l.take k) + x * pw k := by
  rw [val_take_succ (by rw [List.length_set]; exact h), take_set, at_setN h]
theorem val_set {l : List Int} {k : Nat} {x : Int} (h : k < l.length) : val (l.set k x) = val l + (x - at' l k) * pw k := by
  have h1 := val_split (l.set k x) (k := k + 1) (by rw [List.length_set]; omega)
  have h2 := val_split l (k := k + 1) (by omega)
  rw [val_take_set h, List.drop_set_of_lt (by omega)] at h1
  rw [val_take_succ h] at h2
  rw [h1, h2]
  grind
theorem val_one_more {l : List Int} (h : l ≠ []) : ∃ k : Nat, l.length = k + 1 ∧ val l = val (l.take k) + at' l k * pw k := by
  obtain ⟨k, hk⟩ : ∃ k, l.length = k + 1 := ⟨l.length - 1, by have := List.length_pos_iff.2 h; omega⟩
  refine ⟨k, hk, ?_⟩
  rw [← val_take_succ (by omega), ← hk, List.take_length]
def Can (l : List Int) : Prop := Lim l ∧ (l = [] ∨ at' l ((l.length - 1 : Nat) : Int) ≠ 0)
theorem Can.nil : Can [] := ⟨Lim.nil, .inl rfl⟩
theorem Can.pos {l : List Int} (h : Can l) (h0 : l ≠ []) : pw (l.length - 1) ≤ val l := by
  obtain ⟨k, hk, hv⟩ := val_one_more h0
  rcases h.2 with e | e
  · exact absurd e h0
  rw [show l.length - 1 = k by omega] at *
  have h1 := h.1.at k
  have h2 := val_bd (h.1.take k)
  have h3 := Int.mul_le_mul_of_nonneg_right (show (1 : Int) ≤ at' l k by omega) (show (0 : Int) ≤ pw k by have := pw_pos k; omega)
  omega
theorem Can.zero {l : List Int} (h : Can l) (hv : val l = 0) : l = [] := by
  by_cases h0 : l = []
  · exact h0
  · have := h.pos h0
    have := pw_pos (l.length - 1)
    omega
theorem Can.tail {x : Int} {r : List Int} (h : Can (x :: r)) : Can r := by
  refine ⟨h.1.cons.2, ?_⟩
  by_cases hr : r = []
  · exact .inl hr
  · rcases h.2 with e | e
    · cases e
    · right
      have := List.length_pos_iff.2 hr
      obtain ⟨k, hk⟩ : ∃ k, r.length = k + 1 := ⟨r.length - 1, by omega⟩
      rw [List.length_cons, hk] at e
      rw [hk]
      simp only [Nat.add_sub_cancel] at e ⊢
      rw [at_nat] at e ⊢
      simpa using e
theorem Can.uniq : ∀ {a b : List Int}, Can a → Can b → val a = val b → a = b
  | [], b, _, hb, h => (hb.zero h.symm).symm
  | x :: r, [], ha, _, h => ha.zero h
  | x :: r, y :: s, ha, hb, h => by
    rw [val_cons, val_cons] at h
    have h1 := ha.1.cons.1
    have h2 := hb.1.cons.1
    have e : x = y := by omega
    subst e
    rw [Can.uniq ha.tail hb.tail (by omega)]
def digsN : Nat → List Int
  | 0 => []
  | n + 1 => (((n + 1) % 65536 : Nat) : Int) :: digsN ((n + 1) / 65536)
termination_by n => n
decreasing_by omega
theorem digsN_can : ∀ n : Nat, Can (digsN n) ∧ val (digsN n) = n := by
  intro n
  induction n using Nat.strongRecOn with
  | ind n ih =>
    cases n with
    | zero => rw [digsN]; exact ⟨Can.nil, rfl⟩
    | succ n =>
      obtain ⟨hc, hv⟩ := ih ((n + 1) / 65536) (by omega)
      rw [digsN]
      refine ⟨⟨Lim.mk (by omega) (by omega) hc.1, .inr ?_⟩, by rw [val_cons, hv]; omega⟩
      by_cases h0 : digsN ((n + 1) / 65536) = []
      · rw [h0]
        rw [h0, val_nil] at hv
        rw [at_nat]
        simp only [List.length_cons, List.length_nil, Nat.add_sub_cancel]
        show (((n + 1) % 65536 : Nat) : Int) ≠ 0
        omega
      · rcases hc.2 with e | e
        · exact absurd e h0
        · have := List.length_pos_iff.2 h0
          obtain ⟨k, hk⟩ : ∃ k, (digsN ((n + 1) / 65536)).length = k + 1 := ⟨(digsN ((n + 1) / 65536)).length - 1, by omega⟩
          rw [hk] at e
          rw [List.length_cons, hk]
          simp only [Nat.add_sub_cancel] at e ⊢
          rw [at_nat] at e ⊢
          simpa using e
def digs (v : Int) : List Int := digsN v.toNat
theorem digs_can (v : Int) : Can (digs v) := (digsN_can _).1
theorem digs_val {v : Int} (h : 0 ≤ v) : val (digs v) = v := by unfold digs; rw [(digsN_can _).2]; omega
theorem digs_lim (v : Int) : Lim (digs v) := (digs_can v).1
theorem Can.eq {l : List Int} (h : Can l) {v : Int} (hv : val l = v) : l = digs v := by
  have := val_bd h.1
  exact h.uniq (digs_can v) (by rw [digs_val (by omega)]; exact hv)
theorem cut_can {l : List Int} (h : Lim l) {n : Nat} (hn : n ≤ l.length) (hz : ∀ j : Nat, n ≤ j → j < l.length → at' l j = 0) (ht : n = 0 ∨ at' l ((n - 1 : Nat) : Int) ≠ 0) : l.take n = digs (val l) := by
  have hv : val (l.drop n) = 0 := by
    have : l.drop n = List.replicate (l.length - n) 0 := by
      apply List.ext_getElem
      · simp
      · intro i h1 h2
        simp only [List.length_drop] at h1
        rw [List.getElem_drop, List.getElem_replicate, ← at_get (by omega)]
        exact hz (n + i) (by omega) (by omega)
    rw [this, val_zeros]
  refine Can.eq ⟨h.take n, ?_⟩ (by rw [val_split l hn, hv]; omega)
  rcases ht with rfl | ht
  · left; simp
  · by_cases h0 : n = 0
    · left; subst h0; simp
    · right
      rw [List.length_take, Nat.min_eq_left hn, at_take (by omega)]
      exact ht
theorem digs_len {v : Int} (h : 0 ≤ v) {k : Nat} : (digs v).length ≤ k ↔ v < pw k := by
  have hv := digs_val h
  have hb := val_bd (digs_lim v)
  constructor
  · intro hk
    have := pw_le hk
    omega
  · intro hk
    by_cases h0 : digs v = []
    · rw [h0]; exact Nat.zero_le _
    · have hp := (digs_can v).pos h0
      rw [hv] at hp
      by_cases hle : (digs v).length ≤ k
      · exact hle
      · have := pw_le (show k ≤ (digs v).length - 1 by omega)
        omega
theorem Can.digs {l : List Int} (h : Can l) : digs (val l) = l := (h.eq rfl).symm
attribute [irreducible] digs
end Go.Proofs.YtcflokckfjkdpaaDoor.Dg
end
section
set_option linter.unusedVariables false
set_option linter.unusedSimpArgs false
namespace Go.Proofs.YtcflokckfjkdpaaDoor.Big
open Go Go.Proofs.YtcflokckfjkdpaaDoor.Eng
theorem dpw (k : Nat) : pw k = Dg.pw (2 * k) := by
  induction k with
  | zero => rw [pw_zero, Nat.mul_zero, Dg.pw_zero]
  | succ k ih => rw [pw_succ, show 2 * (k + 1) = 2 * k + 1 + 1 by omega, Dg.pw_succ, Dg.pw_succ, ih]; omega
def sp : List Int → List Int
  | [] => []
  | x :: r => x % 65536 :: x / 65536 :: sp r
theorem sp_app : ∀ (a b : List Int), sp (a ++ b) = sp a ++ sp b
  | [], _ => rfl
  | x :: a, b => by rw [List.cons_append, sp, sp, sp_app a b]; rfl
theorem sp_len : ∀ (l : List Int), (sp l).length = 2 * l.length
  | [] => rfl
  | x :: r => by rw [sp, List.length_cons, List.length_cons, sp_len r, List.length_cons]; omega
theorem sp_lim : ∀ {l : List Int}, Lim l → Dg.Lim (sp l)
  | [], _ => Dg.Lim.nil
  | x :: r, h => by
    obtain ⟨hx, hr⟩ := h.cons
    exact Dg.Lim.mk (by omega) (by omega) (Dg.Lim.mk (by omega) (by omega) (sp_lim hr))
theorem sp_val : ∀ (l : List Int), Dg.val (sp l) = val l
  | [] => rfl
  | x :: r => by rw [sp, Dg.val_cons, Dg.val_cons, val_cons, sp_val r]; omega
theorem sp_snoc (l : List Int) {k : Nat} (h : k < l.length) : sp (l.take (k + 1)) = sp (l.take k) ++ [at' l k % 65536, at' l k / 65536] := by
  have e : l.take (k + 1) = l.take k ++ [at' l k] := by
    rw [List.take_add_one, List.getElem?_eq_getElem h, at_get h]; rfl
  rw [e, sp_app]; rfl
def mrg : List Int → List Int
  | [] => []
  | [x] => [x]
  | x :: y :: r => (x + 65536 * y) :: mrg r
theorem mrg_val : ∀ (l : List Int), val (mrg l) = Dg.val l
  | [] => rfl
  | [x] => by rw [mrg, val_one, Dg.val_one]
  | x :: y :: r => by rw [mrg, val_cons, Dg.val_cons, Dg.val_cons, mrg_val r]; omega
theorem mrg_lim : ∀ {l : List Int}, Dg.Lim l → Lim (mrg l)
  | [], _ => Lim.nil
  | [x], h => by have := (h.cons).1; exact Lim.mk (by omega) (by omega) Lim.nil
  | x :: y :: r, h => by
    obtain ⟨hx, hr⟩ := h.cons
    obtain ⟨hy, hr⟩ := hr.cons
    exact Lim.mk (by omega) (by omega) (mrg_lim hr)
theorem mrg_len : ∀ (l : List Int), (mrg l).length = (l.length + 1) / 2
  | [] => by simp [mrg]
  | [x] => by simp [mrg]
  | x :: y :: r => by rw [mrg, List.length_cons, mrg_len r, List.length_cons, List.length_cons]; omega
theorem can_low {l : List Int} (hL : Lim l) (h : l = [] ∨ pw (l.length - 1) ≤ val l) : Big.Can l := by
  refine ⟨hL, ?_⟩
  rcases h with h | h
  · exact .inl h
  · by_cases h0 : l = []
    · exact .inl h0
    right
    intro ht
    obtain ⟨k, hk, hv⟩ := val_one_more h0
    rw [show l.length - 1 = k by omega] at ht h
    rw [ht] at hv
    have := (val_bd (hL.take k)).2
    rw [List.length_take, Nat.min_eq_left (by omega)] at this
    omega
theorem mrg_digs {v : Int} (h : 0 ≤ v) : mrg (Dg.digs v) = limbs v := by
  have hc := Dg.digs_can v
  have hv := Dg.digs_val h
  refine (can_low (mrg_lim hc.1) ?_).eq (by rw [mrg_val, hv])
  by_cases h0 : Dg.digs v = []
  · left; rw [h0]; rfl
  · right
    have hp := hc.pos h0
    have hlen : 0 < (Dg.digs v).length := List.length_pos_iff.2 h0
    rw [mrg_val, dpw, mrg_len]
    exact Int.le_trans (Dg.pw_le (by omega)) hp
theorem digs_len_of {v : Int} {n : Nat} (h : 0 ≤ v) (hn : v < pw n) : (Dg.digs v).length ≤ 2 * n := (Dg.digs_len h).2 (by rw [← dpw]; exact hn)
end Go.Proofs.YtcflokckfjkdpaaDoor.Big
end
section
set_option linter.unusedVariables false
set_option linter.unusedSimpArgs false
namespace Go.Proofs.YtcflokckfjkdpaaDoor.Spec
open Go Go.RowKit Go.Proofs Go.Proofs.YtcflokckfjkdpaaDoor.Eng Go.Proofs.YtcflokckfjkdpaaDoor.Code Go.Proofs.YtcflokckfjkdpaaDoor.Big
set_option maxRecDepth 100000
attribute [local irreducible] callK S.W opsW scrW
theorem plain_spec {w : World} {A : Option Addr} {n c : Nat} {l : List Int} (hn : l.length = n) (hl : Rd w A (nums .u64 l)) (hL : Dg.Lim l) (hc : n ≤ c) (h63 : n ≤ 4611686018427387904) (K : Value → World → Prop)
    (hK : ∀ m, m ≤ n → l.take m = Dg.digs (Dg.val l) → m = (Dg.digs (Dg.val l)).length → K (.slice A m c) w) : callK Tryd.prog 74 [.slice A n c] w K := by
  refine call_of Tryd.func74 Code.h74 (by simp [Code.c74]) ?_
  subst hn
  simp (disch := omega) only [EO, ↓EP, EQ, EM, ↓reduceIte, Int.reduceAdd, Int.reduceEq, Int.reduceLE, Int.reduceLT, Int.reduceMul, Int.reduceNeg, Int.reducePow, Int.reduceSub, Int.reduceToNat, Nat.reduceAdd, Nat.reduceEqDiff, Nat.reduceLT, Nat.reduceLeDiff, Nat.reduceMul, reduceCtorEq, Code.c74]
  refine loop_inv (fun t ρ w' => w' = w ∧ ρ 3 = .int .i64 t ∧ t ≤ l.length ∧ ∀ j : Nat, t ≤ j → j < l.length → at' l j = 0) l.length ⟨rfl, by simp (disch := omega) only [EO, ↓EP, EQ, EM, ↓reduceIte, Int.reduceAdd, Int.reduceEq, Int.reduceLE, Int.reduceLT, Int.reduceMul, Int.reduceNeg, Int.reducePow, Int.reduceSub, Int.reduceToNat, Nat.reduceAdd, Nat.reduceEqDiff, Nat.reduceLT, Nat.reduceLeDiff, Nat.reduceMul, reduceCtorEq], Nat.le_refl _, fun j h1 h2 => by omega⟩ ?_
  rintro t ρ w' hf ⟨rfl, h3, ht, hz⟩ N hN
  have r0 : ρ 0 = .slice A l.length c := by rw [hf 0 rfl]; simp only [↓EP, EQ, EM, ↓reduceIte, Int.reduceAdd, Int.reduceEq, Int.reduceLE, Int.reduceLT, Int.reduceMul, Int.reduceNeg, Int.reducePow, Int.reduceSub, Int.reduceToNat, Nat.reduceAdd, Nat.reduceEqDiff, Nat.reduceLT, Nat.reduceLeDiff, Nat.reduceMul, reduceCtorEq]
  clear hf
  have fin : (t = 0 ∨ at' l ((t - 1 : Nat) : Int) ≠ 0) → K (.slice A t c) w' := fun h => by
    have e := Dg.cut_can hL ht hz h
    exact hK t ht e (by rw [← e, List.length_take]; omega)
  cases t with
  | zero =>
    simp (disch := omega) only [EO, ↓EP, EQ, EM, ↓reduceIte, Int.reduceAdd, Int.reduceEq, Int.reduceLE, Int.reduceLT, Int.reduceMul, Int.reduceNeg, Int.reducePow, Int.reduceSub, Int.reduceToNat, Nat.reduceAdd, Nat.reduceEqDiff, Nat.reduceLT, Nat.reduceLeDiff, Nat.reduceMul, reduceCtorEq, h3, r0, Int.natCast_zero]
    exact fin (.inl rfl)
  | succ k =>
    obtain ⟨p, rfl, _, hp⟩ := hl.get (by rw [nums_length]; omega)
    have cp := hp.numN (j := k) (by omega)
    have e1 : ((k + 1 : Nat) : Int) - 1 = k := by omega
    by_cases he : at' l k = 0
    · simp (disch := omega) only [EO, ↓EP, EQ, EM, ↓reduceIte, Int.reduceAdd, Int.reduceEq, Int.reduceLE, Int.reduceLT, Int.reduceMul, Int.reduceNeg, Int.reducePow, Int.reduceSub, Int.reduceToNat, Nat.reduceAdd, Nat.reduceEqDiff, Nat.reduceLT, Nat.reduceLeDiff, Nat.reduceMul, reduceCtorEq, h3, r0, e1, cp, he]
      exact hN k _ _ (by omega) ⟨rfl, by simp (disch := omega) only [EO, ↓EP, EQ, EM, ↓reduceIte, Int.reduceAdd, Int.reduceEq, Int.reduceLE, Int.reduceLT, Int.reduceMul, Int.reduceNeg, Int.reducePow, Int.reduceSub, Int.reduceToNat, Nat.reduceAdd, Nat.reduceEqDiff, Nat.reduceLT, Nat.reduceLeDiff, Nat.reduceMul, reduceCtorEq], by omega, fun j h1 h2 => by
        by_cases hj : j = k
        · subst hj; exact he
        · exact hz j (by omega) h2⟩
    · have hf : (at' l k = 0) = False := eq_false he
      simp (disch := omega) only [EO, ↓EP, EQ, EM, ↓reduceIte, Int.reduceAdd, Int.reduceEq, Int.reduceLE, Int.reduceLT, Int.reduceMul, Int.reduceNeg, Int.reducePow, Int.reduceSub, Int.reduceToNat, Nat.reduceAdd, Nat.reduceEqDiff, Nat.reduceLT, Nat.reduceLeDiff, Nat.reduceMul, reduceCtorEq, h3, r0, e1, cp, hf]
      exact fin (.inr (by rw [show k + 1 - 1 = k by omega]; exact he))
theorem plain_gw {w0 w : World} {v : Value} {l : List Int} (g : Gw .u64 w0 w v l) (hL : Dg.Lim l) (h63 : l.length ≤ 4611686018427387904) (K : Value → World → Prop)
    (hK : ∀ v', Gw .u64 w0 w v' (Dg.digs (Dg.val l)) → K v' w) : callK Tryd.prog 74 [v] w K := by
  have gs := g.sl
  rcases gs with ⟨rfl, rfl⟩ | ⟨b, pad, rfl, hB⟩
  · refine plain_spec rfl (.inl rfl) hL (Nat.le_refl _) (by simp) _ fun m hm he _ => ?_
    obtain rfl : m = 0 := by simpa using hm
    refine hK _ ?_
    rw [← he]
    exact (Gw.nil .u64 w).from g.fr
  · refine plain_spec rfl g.sl.rdOf hL (by omega) h63 _ fun m hm he _ => hK _ ?_
    refine own_cut hB (g.up b rfl) g.fr (by simp) (by omega) ?_
    rw [List.take_append_of_le_length hm, he]
theorem plain_vw {w : World} {va : Value} {l : List Int} (ha : Vw .u64 w va l) (hL : Dg.Lim l) (h63 : l.length ≤ 4611686018427387904) (K : Value → World → Prop)
    (hK : ∀ v, Vw .u64 w v (Dg.digs (Dg.val l)) → K v w) : callK Tryd.prog 74 [va] w K := by
  obtain ⟨A, c, rfl, hc, hr⟩ := ha
  refine plain_spec rfl hr hL hc h63 _ fun m hm he hlen => hK _ ?_
  have := hr.take m
  rw [he] at this
  exact Vw.of hlen.symm (by omega) this
theorem and65535 {x : Int} (h0 : 0 ≤ x) (h1 : x < 4294967296) : bits .and .u32 x 65535 = x % 65536 := by
  rw [u32_and _ _ (by omega) (by omega) (by omega) (by omega)]
  have := Nat.and_two_pow_sub_one_eq_mod x.toNat 16
  rw [show (65535 : Int).toNat = 2 ^ 16 - 1 by rfl, this]
  omega
set_option maxHeartbeats 1000000 in
theorem digits_vw {w : World} {va : Value} {l : List Int} (ha : Vw .u32 w va l) (hL : Lim l) (h47 : l.length ≤ 4194304) (K : Value → World → Prop)
    (hK : ∀ v w', Gw .u64 w w' v (Dg.digs (val l)) → K v w') : callK Tryd.prog 62 [va] w K := by
  obtain ⟨A, c, rfl, hc, hr⟩ := ha
  refine call_of Tryd.func62 Code.h62 (by simp [Code.c62]) ?_
  simp (disch := omega) only [EO, ↓EP, EQ, EM, ↓reduceIte, Int.reduceAdd, Int.reduceEq, Int.reduceLE, Int.reduceLT, Int.reduceMul, Int.reduceNeg, Int.reducePow, Int.reduceSub, Int.reduceToNat, Nat.reduceAdd, Nat.reduceEqDiff, Nat.reduceLT, Nat.reduceLeDiff, Nat.reduceMul, reduceCtorEq, Code.c62]
  refine loop_inv (fun t ρ w' => ∃ (k : Nat) (v : Value), ρ 4 = .int .i64 k ∧ k ≤ l.length ∧ t = l.length - k ∧ ρ 3 = v ∧ Gw .u64 w w' v (sp (l.take k))) _ ⟨0, _, by simp (disch := omega) only [EO, ↓EP, EQ, EM, ↓reduceIte, Int.reduceAdd, Int.reduceEq, Int.reduceLE, Int.reduceLT, Int.reduceMul, Int.reduceNeg, Int.reducePow, Int.reduceSub, Int.reduceToNat, Nat.reduceAdd, Nat.reduceEqDiff, Nat.reduceLT, Nat.reduceLeDiff, Nat.reduceMul, reduceCtorEq], by omega, rfl, by simp (disch := omega) only [EO, ↓EP, EQ, EM, ↓reduceIte, Int.reduceAdd, Int.reduceEq, Int.reduceLE, Int.reduceLT, Int.reduceMul, Int.reduceNeg, Int.reducePow, Int.reduceSub, Int.reduceToNat, Nat.reduceAdd, Nat.reduceEqDiff, Nat.reduceLT, Nat.reduceLeDiff, Nat.reduceMul, reduceCtorEq], Gw.nil _ _⟩ ?_
  rintro t ρ w' hf ⟨k, v, h4, hk, rfl, h3, g⟩ N hN
  have q0 : ρ 0 = .slice A l.length c := by rw [hf 0 rfl]; simp (disch := omega) only [EO, ↓EP, EQ, EM, ↓reduceIte, Int.reduceAdd, Int.reduceEq, Int.reduceLE, Int.reduceLT, Int.reduceMul, Int.reduceNeg, Int.reducePow, Int.reduceSub, Int.reduceToNat, Nat.reduceAdd, Nat.reduceEqDiff, Nat.reduceLT, Nat.reduceLeDiff, Nat.reduceMul, reduceCtorEq]
  clear hf
  have hsl : (sp (l.take k)).length = 2 * k := by rw [sp_len, List.length_take]; omega
  by_cases hkl : (k : Int) < (l.length : Int)
  · obtain ⟨p, rfl, _, hp⟩ := (hr.nb g.fr).get (by rw [nums_length]; omega)
    have cp := hp.numN (j := k) (by omega)
    have bx := hL.at k
    have e1 := and65535 bx.1 bx.2
    simp (disch := omega) only [wu64, wu32, wu8, fdiv_nn, EO, ↓EP, EQ, EM, ↓reduceIte, Int.reduceAdd, Int.reduceEq, Int.reduceLE, Int.reduceLT, Int.reduceMul, Int.reduceNeg, Int.reducePow, Int.reduceSub, Int.reduceToNat, Nat.reduceAdd, Nat.reduceEqDiff, Nat.reduceLT, Nat.reduceLeDiff, Nat.reduceMul, reduceCtorEq, h4, h3, q0, cp, e1]
    intro m1
    refine bsl2 fun w2 n2 => ?_
    have f2 : Fr w' w2 nob := (Fr.drewN w' _ nob).nb (n2.fr nob)
    simp (disch := omega) only [wu64, wu32, wu8, fdiv_nn, EO, ↓EP, EQ, EM, ↓reduceIte, Int.reduceAdd, Int.reduceEq, Int.reduceLE, Int.reduceLT, Int.reduceMul, Int.reduceNeg, Int.reducePow, Int.reduceSub, Int.reduceToNat, Nat.reduceAdd, Nat.reduceEqDiff, Nat.reduceLT, Nat.reduceLeDiff, Nat.reduceMul, reduceCtorEq, h3]
    intro m2
    have f3 : Fr w2 (w2.drewN m2) nob := Fr.drewN w2 m2 nob
    refine app_num ((g.sl.nb f2).nb f3) rfl (n2.rdl.nb f3) (by rw [hsl]; simp; omega) (by omega) fun v4 w4 a4 => ?_
    have g4 := ((g.step f2).step f3).apd a4
    rw [← sp_snoc l (by omega)] at g4
    simp (disch := omega) only [wu64, wu32, wu8, fdiv_nn, EO, ↓EP, EQ, EM, ↓reduceIte, Int.reduceAdd, Int.reduceEq, Int.reduceLE, Int.reduceLT, Int.reduceMul, Int.reduceNeg, Int.reducePow, Int.reduceSub, Int.reduceToNat, Nat.reduceAdd, Nat.reduceEqDiff, Nat.reduceLT, Nat.reduceLeDiff, Nat.reduceMul, reduceCtorEq, h4]
    intro m3
    exact hN (l.length - (k + 1)) _ _ (by omega) ⟨k + 1, v4, by simp (disch := omega) only [EO, ↓EP, EQ, EM, ↓reduceIte, Int.reduceAdd, Int.reduceEq, Int.reduceLE, Int.reduceLT, Int.reduceMul, Int.reduceNeg, Int.reducePow, Int.reduceSub, Int.reduceToNat, Nat.reduceAdd, Nat.reduceEqDiff, Nat.reduceLT, Nat.reduceLeDiff, Nat.reduceMul, reduceCtorEq, h4, Int.natCast_add], by omega, rfl, by simp (disch := omega) only [EO, ↓EP, EQ, EM, ↓reduceIte, Int.reduceAdd, Int.reduceEq, Int.reduceLE, Int.reduceLT, Int.reduceMul, Int.reduceNeg, Int.reducePow, Int.reduceSub, Int.reduceToNat, Nat.reduceAdd, Nat.reduceEqDiff, Nat.reduceLT, Nat.reduceLeDiff, Nat.reduceMul, reduceCtorEq], g4.step (Fr.drewN w4 m3 nob)⟩
  · have hk : k = l.length := by omega
    subst hk
    rw [List.take_length] at g
    simp (disch := omega) only [EO, ↓EP, EQ, EM, ↓reduceIte, Int.reduceAdd, Int.reduceEq, Int.reduceLE, Int.reduceLT, Int.reduceMul, Int.reduceNeg, Int.reducePow, Int.reduceSub, Int.reduceToNat, Nat.reduceAdd, Nat.reduceEqDiff, Nat.reduceLT, Nat.reduceLeDiff, Nat.reduceMul, reduceCtorEq, h4, h3, q0]
    refine plain_gw g (sp_lim hL) (by rw [sp_len]; omega) _ fun v5 g5 => ?_
    rw [sp_val] at g5
    simp (disch := omega) only [EO, ↓EP, EQ, EM, ↓reduceIte, Int.reduceAdd, Int.reduceEq, Int.reduceLE, Int.reduceLT, Int.reduceMul, Int.reduceNeg, Int.reducePow, Int.reduceSub, Int.reduceToNat, Nat.reduceAdd, Nat.reduceEqDiff, Nat.reduceLT, Nat.reduceLeDiff, Nat.reduceMul, reduceCtorEq]
    exact hK v5 w' g5
set_option maxHeartbeats 1000000 in
theorem limbs_vw {w : World} {va : Value} {l : List Int} (ha : Vw .u64 w va l) (hL : Dg.Lim l) (h47 : l.length ≤ 16777216) (K : Value → World → Prop)
    (hK : ∀ v w', Gw .u32 w w' v (limbs (Dg.val l)) → K v w') : callK Tryd.prog 61 [va] w K := by
  refine call_of Tryd.func61 Code.h61 (by simp [Code.c61]) ?_
  simp (disch := omega) only [EO, ↓EP, EQ, EM, ↓reduceIte, Int.reduceAdd, Int.reduceEq, Int.reduceLE, Int.reduceLT, Int.reduceMul, Int.reduceNeg, Int.reducePow, Int.reduceSub, Int.reduceToNat, Nat.reduceAdd, Nat.reduceEqDiff, Nat.reduceLT, Nat.reduceLeDiff, Nat.reduceMul, reduceCtorEq, Code.c61]
  have hv0 := (Dg.val_bd hL).1
  refine plain_vw ha hL (by omega) _ fun vd hd => ?_
  have hDl : (Dg.digs (Dg.val l)).length ≤ l.length := (Dg.digs_len hv0).2 (Dg.val_bd hL).2
  have hDL := Dg.digs_lim (Dg.val l)
  have hm := mrg_digs hv0
  generalize Dg.digs (Dg.val l) = d at hd hDl hDL hm
  rw [← hm] at hK
  obtain ⟨A, c, rfl, hc, hr⟩ := hd
  simp (disch := omega) only [EO, ↓EP, EQ, EM, ↓reduceIte, Int.reduceAdd, Int.reduceEq, Int.reduceLE, Int.reduceLT, Int.reduceMul, Int.reduceNeg, Int.reducePow, Int.reduceSub, Int.reduceToNat, Nat.reduceAdd, Nat.reduceEqDiff, Nat.reduceLT, Nat.reduceLeDiff, Nat.reduceMul, reduceCtorEq]
  refine loop_inv (fun t ρ w' => ∃ (k : Nat) (v : Value) (o : List Int), ρ 4 = .int .i64 ((2 * k : Nat) : Int) ∧ 2 * k ≤ d.length + 1 ∧ t = d.length + 1 - 2 * k ∧ ρ 3 = v ∧ Gw .u32 w w' v o ∧ o.length = k ∧ o ++ mrg (d.drop (2 * k)) = mrg d) _ ⟨0, _, [], by simp (disch := omega) only [EO, ↓EP, EQ, EM, ↓reduceIte, Int.reduceAdd, Int.reduceEq, Int.reduceLE, Int.reduceLT, Int.reduceMul, Int.reduceNeg, Int.reducePow, Int.reduceSub, Int.reduceToNat, Nat.reduceAdd, Nat.reduceEqDiff, Nat.reduceLT, Nat.reduceLeDiff, Nat.reduceMul, reduceCtorEq, Nat.mul_zero, Int.natCast_zero], by omega, rfl, by simp (disch := omega) only [EO, ↓EP, EQ, EM, ↓reduceIte, Int.reduceAdd, Int.reduceEq, Int.reduceLE, Int.reduceLT, Int.reduceMul, Int.reduceNeg, Int.reducePow, Int.reduceSub, Int.reduceToNat, Nat.reduceAdd, Nat.reduceEqDiff, Nat.reduceLT, Nat.reduceLeDiff, Nat.reduceMul, reduceCtorEq], Gw.nil _ _, rfl, rfl⟩ ?_
  rintro t ρ w' hf ⟨k, v, o, h4, hk, rfl, h3, g, ho, hmk⟩ N hN
  have q0 : ρ 0 = .slice A d.length c := by rw [hf 0 rfl]; simp (disch := omega) only [EO, ↓EP, EQ, EM, ↓reduceIte, Int.reduceAdd, Int.reduceEq, Int.reduceLE, Int.reduceLT, Int.reduceMul, Int.reduceNeg, Int.reducePow, Int.reduceSub, Int.reduceToNat, Nat.reduceAdd, Nat.reduceEqDiff, Nat.reduceLT, Nat.reduceLeDiff, Nat.reduceMul, reduceCtorEq]
  clear hf
  by_cases hkl : ((2 * k : Nat) : Int) < (d.length : Int)
  · obtain ⟨p, rfl, _, hp⟩ := (hr.nb g.fr).get (by rw [nums_length]; omega)
    have cp := hp.numN (j := 2 * k) (by omega)
    have bx := hDL.at (2 * k : Nat)
    have e2 : ((2 * k : Nat) : Int) + 2 = ((2 * (k + 1) : Nat) : Int) := by omega
    by_cases hlast : ((2 * k : Nat) : Int) + 1 < (d.length : Int)
    · have cp1 := hp.numN (j := 2 * k + 1) (by omega)
      have by1 := hDL.at (2 * k + 1 : Nat)
      have e1 : (((2 * k : Nat) : Int) + 1).toNat = 2 * k + 1 := by omega
      have ed : d.drop (2 * k) = at' d (2 * k : Nat) :: at' d (2 * k + 1 : Nat) :: d.drop (2 * (k + 1)) := by
        rw [List.drop_eq_getElem_cons (by omega), List.drop_eq_getElem_cons (by omega), at_get (by omega), at_get (by omega)]
        rfl
      simp (disch := omega) only [wu64, wu32, wu8, fdiv_nn, EO, ↓EP, EQ, EM, ↓reduceIte, Int.reduceAdd, Int.reduceEq, Int.reduceLE, Int.reduceLT, Int.reduceMul, Int.reduceNeg, Int.reducePow, Int.reduceSub, Int.reduceToNat, Nat.reduceAdd, Nat.reduceEqDiff, Nat.reduceLT, Nat.reduceLeDiff, Nat.reduceMul, reduceCtorEq, W_join, h4, h3, q0, cp, cp1, e1]
      refine bsl1 fun w2 n2 => ?_
      simp (disch := omega) only [wu64, wu32, wu8, fdiv_nn, EO, ↓EP, EQ, EM, ↓reduceIte, Int.reduceAdd, Int.reduceEq, Int.reduceLE, Int.reduceLT, Int.reduceMul, Int.reduceNeg, Int.reducePow, Int.reduceSub, Int.reduceToNat, Nat.reduceAdd, Nat.reduceEqDiff, Nat.reduceLT, Nat.reduceLeDiff, Nat.reduceMul, reduceCtorEq, h3]
      refine app_num (g.sl.nb (n2.fr nob)) rfl n2.rdl (by simp; omega) (by omega) fun v4 w4 a4 => ?_
      have g4 := (g.step (n2.fr nob)).apd a4
      simp (disch := omega) only [wu64, wu32, wu8, fdiv_nn, EO, ↓EP, EQ, EM, ↓reduceIte, Int.reduceAdd, Int.reduceEq, Int.reduceLE, Int.reduceLT, Int.reduceMul, Int.reduceNeg, Int.reducePow, Int.reduceSub, Int.reduceToNat, Nat.reduceAdd, Nat.reduceEqDiff, Nat.reduceLT, Nat.reduceLeDiff, Nat.reduceMul, reduceCtorEq, h4, e2]
      refine hN (d.length + 1 - 2 * (k + 1)) _ _ (by omega) ⟨k + 1, v4, _, by simp (disch := omega) only [EO, ↓EP, EQ, EM, ↓reduceIte, Int.reduceAdd, Int.reduceEq, Int.reduceLE, Int.reduceLT, Int.reduceMul, Int.reduceNeg, Int.reducePow, Int.reduceSub, Int.reduceToNat, Nat.reduceAdd, Nat.reduceEqDiff, Nat.reduceLT, Nat.reduceLeDiff, Nat.reduceMul, reduceCtorEq, h4, e2], by omega, rfl, by simp (disch := omega) only [EO, ↓EP, EQ, EM, ↓reduceIte, Int.reduceAdd, Int.reduceEq, Int.reduceLE, Int.reduceLT, Int.reduceMul, Int.reduceNeg, Int.reducePow, Int.reduceSub, Int.reduceToNat, Nat.reduceAdd, Nat.reduceEqDiff, Nat.reduceLT, Nat.reduceLeDiff, Nat.reduceMul, reduceCtorEq], g4, by simp [ho], ?_⟩
      rw [← hmk, ed, mrg, List.append_assoc, List.singleton_append]
      congr 2
      omega
    · have ed : d.drop (2 * k) = [at' d (2 * k : Nat)] := by
        rw [List.drop_eq_getElem_cons (by omega), at_get (by omega), List.drop_of_length_le (by omega)]
      have ed2 : d.drop (2 * (k + 1)) = [] := List.drop_of_length_le (by omega)
      simp (disch := omega) only [wu64, wu32, wu8, fdiv_nn, EO, ↓EP, EQ, EM, ↓reduceIte, Int.reduceAdd, Int.reduceEq, Int.reduceLE, Int.reduceLT, Int.reduceMul, Int.reduceNeg, Int.reducePow, Int.reduceSub, Int.reduceToNat, Nat.reduceAdd, Nat.reduceEqDiff, Nat.reduceLT, Nat.reduceLeDiff, Nat.reduceMul, reduceCtorEq, W_join, h4, h3, q0, cp]
      refine bsl1 fun w2 n2 => ?_
      simp (disch := omega) only [wu64, wu32, wu8, fdiv_nn, EO, ↓EP, EQ, EM, ↓reduceIte, Int.reduceAdd, Int.reduceEq, Int.reduceLE, Int.reduceLT, Int.reduceMul, Int.reduceNeg, Int.reducePow, Int.reduceSub, Int.reduceToNat, Nat.reduceAdd, Nat.reduceEqDiff, Nat.reduceLT, Nat.reduceLeDiff, Nat.reduceMul, reduceCtorEq, h3]
      refine app_num (g.sl.nb (n2.fr nob)) rfl n2.rdl (by simp; omega) (by omega) fun v4 w4 a4 => ?_
      have g4 := (g.step (n2.fr nob)).apd a4
      simp (disch := omega) only [wu64, wu32, wu8, fdiv_nn, EO, ↓EP, EQ, EM, ↓reduceIte, Int.reduceAdd, Int.reduceEq, Int.reduceLE, Int.reduceLT, Int.reduceMul, Int.reduceNeg, Int.reducePow, Int.reduceSub, Int.reduceToNat, Nat.reduceAdd, Nat.reduceEqDiff, Nat.reduceLT, Nat.reduceLeDiff, Nat.reduceMul, reduceCtorEq, h4, e2]
      refine hN (d.length + 1 - 2 * (k + 1)) _ _ (by omega) ⟨k + 1, v4, _, by simp (disch := omega) only [EO, ↓EP, EQ, EM, ↓reduceIte, Int.reduceAdd, Int.reduceEq, Int.reduceLE, Int.reduceLT, Int.reduceMul, Int.reduceNeg, Int.reducePow, Int.reduceSub, Int.reduceToNat, Nat.reduceAdd, Nat.reduceEqDiff, Nat.reduceLT, Nat.reduceLeDiff, Nat.reduceMul, reduceCtorEq, h4, e2], by omega, rfl, by simp (disch := omega) only [EO, ↓EP, EQ, EM, ↓reduceIte, Int.reduceAdd, Int.reduceEq, Int.reduceLE, Int.reduceLT, Int.reduceMul, Int.reduceNeg, Int.reducePow, Int.reduceSub, Int.reduceToNat, Nat.reduceAdd, Nat.reduceEqDiff, Nat.reduceLT, Nat.reduceLeDiff, Nat.reduceMul, reduceCtorEq], g4, by simp [ho], ?_⟩
      rw [← hmk, ed, ed2]; simp [mrg]
  · have e0 : d.drop (2 * k) = [] := List.drop_of_length_le (by omega)
    rw [e0, mrg, List.append_nil] at hmk
    rw [hmk] at g
    simp (disch := omega) only [EO, ↓EP, EQ, EM, ↓reduceIte, Int.reduceAdd, Int.reduceEq, Int.reduceLE, Int.reduceLT, Int.reduceMul, Int.reduceNeg, Int.reducePow, Int.reduceSub, Int.reduceToNat, Nat.reduceAdd, Nat.reduceEqDiff, Nat.reduceLT, Nat.reduceLeDiff, Nat.reduceMul, reduceCtorEq, h4, h3, q0]
    exact hK v w' g
end Go.Proofs.YtcflokckfjkdpaaDoor.Spec
end
section
set_option linter.unusedVariables false
set_option linter.unusedSimpArgs false
namespace Go.Proofs.YtcflokckfjkdpaaDoor.Spec
open Go Go.RowKit Go.Proofs Go.Proofs.YtcflokckfjkdpaaDoor.Eng Go.Proofs.YtcflokckfjkdpaaDoor.Code Go.Proofs.YtcflokckfjkdpaaDoor.Big
set_option maxRecDepth 100000
attribute [local irreducible] callK S.W opsW scrW
end Go.Proofs.YtcflokckfjkdpaaDoor.Spec
end
section
set_option linter.unusedVariables false
set_option linter.unusedSimpArgs false
namespace Go.Proofs.YtcflokckfjkdpaaDoor.Spec
open Go Go.RowKit Go.Proofs Go.Proofs.YtcflokckfjkdpaaDoor.Eng Go.Proofs.YtcflokckfjkdpaaDoor.Code
set_option maxRecDepth 100000
theorem take_at {l r : List Int} {k : Nat} (h : l.take k = r.take k) (h1 : k < l.length) (h2 : k < r.length) (e : at' l k = at' r k) : l.take (k + 1) = r.take (k + 1) := by
  rw [List.take_add_one, List.take_add_one, h, List.getElem?_eq_getElem h1, List.getElem?_eq_getElem h2]
  simp [at', h1, h2] at e
  rw [e]
theorem same_spec {w : World} {A B : Option Addr} {n m c d : Nat} {l r : List Int} (hn : l.length = n) (hm : r.length = m) (hl : Rd w A (nums .u8 l)) (hr : Rd w B (nums .u8 r)) (h63 : n ≤ 4611686018427387904) (K : Value → World → Prop)
    (hK : ∀ w', Fr w w' nob → K (.bool (decide (l = r))) w') : callK Tryd.prog 18 [.slice A n c, .slice B m d] w K := by
  refine call_of Tryd.func18 Code.h18 (by simp [Code.c18]) ?_
  subst hn
  subst hm
  by_cases hlen : (l.length : Int) = (r.length : Int)
  · simp (disch := omega) only [EO, ↓EP, EQ, EM, ↓reduceIte, Int.reduceAdd, Int.reduceEq, Int.reduceLE, Int.reduceLT, Int.reduceMul, Int.reduceNeg, Int.reducePow, Int.reduceSub, Int.reduceToNat, Nat.reduceAdd, Nat.reduceEqDiff, Nat.reduceLT, Nat.reduceLeDiff, Nat.reduceMul, reduceCtorEq, Code.c18, hlen]
    refine loop_inv (fun t ρ w' => ∃ k : Nat, ρ 5 = .int .i64 k ∧ k ≤ r.length ∧ t = r.length - k ∧ l.take k = r.take k ∧ ∃ j, w' = w.drewN j) _ ⟨0, by simp (disch := omega) only [EO, ↓EP, EQ, EM, ↓reduceIte, Int.reduceAdd, Int.reduceEq, Int.reduceLE, Int.reduceLT, Int.reduceMul, Int.reduceNeg, Int.reducePow, Int.reduceSub, Int.reduceToNat, Nat.reduceAdd, Nat.reduceEqDiff, Nat.reduceLT, Nat.reduceLeDiff, Nat.reduceMul, reduceCtorEq], by omega, rfl, by simp, 0, rfl⟩ ?_
    rintro t ρ w' hf ⟨k, h5, hk, rfl, ht, j, rfl⟩ N hN
    have r0 : ρ 0 = .slice A l.length c := by rw [hf 0 rfl]; simp only [↓EP, EQ, EM, ↓reduceIte, Int.reduceAdd, Int.reduceEq, Int.reduceLE, Int.reduceLT, Int.reduceMul, Int.reduceNeg, Int.reducePow, Int.reduceSub, Int.reduceToNat, Nat.reduceAdd, Nat.reduceEqDiff, Nat.reduceLT, Nat.reduceLeDiff, Nat.reduceMul, reduceCtorEq]
    have r1 : ρ 1 = .slice B r.length d := by rw [hf 1 rfl]; simp only [↓EP, EQ, EM, ↓reduceIte, Int.reduceAdd, Int.reduceEq, Int.reduceLE, Int.reduceLT, Int.reduceMul, Int.reduceNeg, Int.reducePow, Int.reduceSub, Int.reduceToNat, Nat.reduceAdd, Nat.reduceEqDiff, Nat.reduceLT, Nat.reduceLeDiff, Nat.reduceMul, reduceCtorEq]
    clear hf
    by_cases hkl : (k : Int) < (r.length : Int)
    · obtain ⟨p, rfl, _, hp⟩ := hl.get (by rw [nums_length]; omega)
      obtain ⟨q, rfl, _, hq⟩ := hr.get (by rw [nums_length]; omega)
      have cp := hp.numN (j := k) (by omega)
      have cq := hq.numN (j := k) (by omega)
      by_cases he : at' l k = at' r k
      · simp (disch := omega) only [EO, ↓EP, EQ, EM, ↓reduceIte, Int.reduceAdd, Int.reduceEq, Int.reduceLE, Int.reduceLT, Int.reduceMul, Int.reduceNeg, Int.reducePow, Int.reduceSub, Int.reduceToNat, Nat.reduceAdd, Nat.reduceEqDiff, Nat.reduceLT, Nat.reduceLeDiff, Nat.reduceMul, reduceCtorEq, h5, r0, r1, hlen, cp, cq, he]
        intro m
        exact hN (r.length - (k + 1)) _ _ (by omega) ⟨k + 1, by simp (disch := omega) only [EO, ↓EP, EQ, EM, ↓reduceIte, Int.reduceAdd, Int.reduceEq, Int.reduceLE, Int.reduceLT, Int.reduceMul, Int.reduceNeg, Int.reducePow, Int.reduceSub, Int.reduceToNat, Nat.reduceAdd, Nat.reduceEqDiff, Nat.reduceLT, Nat.reduceLeDiff, Nat.reduceMul, reduceCtorEq, h5, Int.natCast_add], by omega, rfl, take_at ht (by omega) (by omega) he, _, rfl⟩
      · have hf : (at' l k = at' r k) = False := eq_false he
        simp (disch := omega) only [EO, ↓EP, EQ, EM, ↓reduceIte, Int.reduceAdd, Int.reduceEq, Int.reduceLE, Int.reduceLT, Int.reduceMul, Int.reduceNeg, Int.reducePow, Int.reduceSub, Int.reduceToNat, Nat.reduceAdd, Nat.reduceEqDiff, Nat.reduceLT, Nat.reduceLeDiff, Nat.reduceMul, reduceCtorEq, h5, r0, r1, hlen, cp, cq, hf]
        intro m
        have hne : decide (l = r) = false := decide_eq_false fun e => he (by rw [e])
        have := hK (w.drewN (j + m)) (Fr.drewN w _ _)
        rwa [hne] at this
    · simp (disch := omega) only [EO, ↓EP, EQ, EM, ↓reduceIte, Int.reduceAdd, Int.reduceEq, Int.reduceLE, Int.reduceLT, Int.reduceMul, Int.reduceNeg, Int.reducePow, Int.reduceSub, Int.reduceToNat, Nat.reduceAdd, Nat.reduceEqDiff, Nat.reduceLT, Nat.reduceLeDiff, Nat.reduceMul, reduceCtorEq, h5, r0, hlen]
      have hall : l = r := by
        have hkr : k = r.length := by omega
        subst hkr
        rwa [List.take_of_length_le (by omega), List.take_of_length_le (Nat.le_refl _)] at ht
      have := hK (w.drewN j) (Fr.drewN w _ _)
      rwa [decide_eq_true hall] at this
  · have hne : decide (l = r) = false := decide_eq_false fun e => hlen (by rw [e])
    have hf : ((l.length : Int) = (r.length : Int)) = False := eq_false hlen
    simp (disch := omega) only [EO, ↓EP, EQ, EM, ↓reduceIte, Int.reduceAdd, Int.reduceEq, Int.reduceLE, Int.reduceLT, Int.reduceMul, Int.reduceNeg, Int.reducePow, Int.reduceSub, Int.reduceToNat, Nat.reduceAdd, Nat.reduceEqDiff, Nat.reduceLT, Nat.reduceLeDiff, Nat.reduceMul, reduceCtorEq, Code.c18, hf]
    have := hK w (Fr.refl _ _)
    rwa [hne] at this
end Go.Proofs.YtcflokckfjkdpaaDoor.Spec
end
section
set_option linter.unusedVariables false
set_option linter.unusedSimpArgs false
namespace Go.Proofs.YtcflokckfjkdpaaDoor.Spec
open Go Go.RowKit Go.Proofs Go.Proofs.YtcflokckfjkdpaaDoor.Eng Go.Proofs.YtcflokckfjkdpaaDoor.Code
set_option maxRecDepth 100000
structure Lnt (k : IntKind) (w0 w : World) (v : Value) (l : List Int) (x y : Int) : Prop where
  ex : ∃ b pad, v = .slice (some ⟨b, 0, none⟩) l.length (l.length + (2 + pad.length)) ∧ Blk w b (nums k (l ++ [x, y] ++ pad)) ∧ w0.heap.size ≤ b
theorem Lnt.fr {k : IntKind} {w0 w w' : World} {v : Value} {l : List Int} {x y : Int} (h : Lnt k w0 w v l x y) {P : Nat → Prop} (f : Fr w w' P) (hp : ∀ b, blkOf v = some b → ¬ P b) : Lnt k w0 w' v l x y := by
  obtain ⟨b, pad, rfl, hB, hb⟩ := h.ex
  exact ⟨b, pad, rfl, hB.fr f (hp b rfl), hb⟩
theorem Lnt.read {k : IntKind} {w0 w : World} {v : Value} {l : List Int} {x y : Int} (h : Lnt k w0 w v l x y) : ∃ b c, v = .slice (some ⟨b, 0, none⟩) l.length c ∧ l.length + 2 ≤ c ∧ w0.heap.size ≤ b ∧ Rd w (some ⟨b, 0, none⟩) (nums k l) := by
  obtain ⟨b, pad, rfl, hB, hb⟩ := h.ex
  exact ⟨b, _, rfl, by omega, hb, hB.rd 0 (n := l.length) (by rw [List.drop_zero, nums_take]; simp)⟩
end Go.Proofs.YtcflokckfjkdpaaDoor.Spec
end
section
set_option linter.unusedVariables false
set_option linter.unusedSimpArgs false
namespace Go.Proofs.YtcflokckfjkdpaaDoor.Spec
open Go Go.RowKit Go.Proofs Go.Proofs.YtcflokckfjkdpaaDoor.Eng Go.Proofs.YtcflokckfjkdpaaDoor.Code
set_option maxRecDepth 100000
theorem sameN_spec {w : World} {A B : Option Addr} {n m c d : Nat} {l r : List Int} (hn : l.length = n) (hm : r.length = m) (hl : Rd w A (nums .u32 l)) (hr : Rd w B (nums .u32 r)) (h63 : n ≤ 4611686018427387904) (K : Value → World → Prop)
    (hK : ∀ w', Fr w w' nob → K (.bool (decide (l = r))) w') : callK Tryd.prog 37 [.slice A n c, .slice B m d] w K := by
  refine call_of Tryd.func37 Code.h37 (by simp [Code.c37]) ?_
  subst hn
  subst hm
  by_cases hlen : (l.length : Int) = (r.length : Int)
  · simp (disch := omega) only [EO, ↓EP, EQ, EM, ↓reduceIte, Int.reduceAdd, Int.reduceEq, Int.reduceLE, Int.reduceLT, Int.reduceMul, Int.reduceNeg, Int.reducePow, Int.reduceSub, Int.reduceToNat, Nat.reduceAdd, Nat.reduceEqDiff, Nat.reduceLT, Nat.reduceLeDiff, Nat.reduceMul, reduceCtorEq, Code.c37, hlen]
    refine loop_inv (fun t ρ w' => ∃ k : Nat, ρ 5 = .int .i64 k ∧ k ≤ r.length ∧ t = r.length - k ∧ l.take k = r.take k ∧ ∃ j, w' = w.drewN j) _ ⟨0, by simp (disch := omega) only [EO, ↓EP, EQ, EM, ↓reduceIte, Int.reduceAdd, Int.reduceEq, Int.reduceLE, Int.reduceLT, Int.reduceMul, Int.reduceNeg, Int.reducePow, Int.reduceSub, Int.reduceToNat, Nat.reduceAdd, Nat.reduceEqDiff, Nat.reduceLT, Nat.reduceLeDiff, Nat.reduceMul, reduceCtorEq], by omega, rfl, by simp, 0, rfl⟩ ?_
    rintro t ρ w' hf ⟨k, h5, hk, rfl, ht, j, rfl⟩ N hN
    have r0 : ρ 0 = .slice A l.length c := by rw [hf 0 rfl]; simp only [↓EP, EQ, EM, ↓reduceIte, Int.reduceAdd, Int.reduceEq, Int.reduceLE, Int.reduceLT, Int.reduceMul, Int.reduceNeg, Int.reducePow, Int.reduceSub, Int.reduceToNat, Nat.reduceAdd, Nat.reduceEqDiff, Nat.reduceLT, Nat.reduceLeDiff, Nat.reduceMul, reduceCtorEq]
    have r1 : ρ 1 = .slice B r.length d := by rw [hf 1 rfl]; simp only [↓EP, EQ, EM, ↓reduceIte, Int.reduceAdd, Int.reduceEq, Int.reduceLE, Int.reduceLT, Int.reduceMul, Int.reduceNeg, Int.reducePow, Int.reduceSub, Int.reduceToNat, Nat.reduceAdd, Nat.reduceEqDiff, Nat.reduceLT, Nat.reduceLeDiff, Nat.reduceMul, reduceCtorEq]
    clear hf
    by_cases hkl : (k : Int) < (r.length : Int)
    · obtain ⟨p, rfl, _, hp⟩ := hl.get (by rw [nums_length]; omega)
      obtain ⟨q, rfl, _, hq⟩ := hr.get (by rw [nums_length]; omega)
      have cp := hp.numN (j := k) (by omega)
      have cq := hq.numN (j := k) (by omega)
      by_cases he : at' l k = at' r k
      · simp (disch := omega) only [EO, ↓EP, EQ, EM, ↓reduceIte, Int.reduceAdd, Int.reduceEq, Int.reduceLE, Int.reduceLT, Int.reduceMul, Int.reduceNeg, Int.reducePow, Int.reduceSub, Int.reduceToNat, Nat.reduceAdd, Nat.reduceEqDiff, Nat.reduceLT, Nat.reduceLeDiff, Nat.reduceMul, reduceCtorEq, h5, r0, r1, hlen, cp, cq, he]
        intro m
        exact hN (r.length - (k + 1)) _ _ (by omega) ⟨k + 1, by simp (disch := omega) only [EO, ↓EP, EQ, EM, ↓reduceIte, Int.reduceAdd, Int.reduceEq, Int.reduceLE, Int.reduceLT, Int.reduceMul, Int.reduceNeg, Int.reducePow, Int.reduceSub, Int.reduceToNat, Nat.reduceAdd, Nat.reduceEqDiff, Nat.reduceLT, Nat.reduceLeDiff, Nat.reduceMul, reduceCtorEq, h5, Int.natCast_add], by omega, rfl, take_at ht (by omega) (by omega) he, _, rfl⟩
      · have hf : (at' l k = at' r k) = False := eq_false he
        simp (disch := omega) only [EO, ↓EP, EQ, EM, ↓reduceIte, Int.reduceAdd, Int.reduceEq, Int.reduceLE, Int.reduceLT, Int.reduceMul, Int.reduceNeg, Int.reducePow, Int.reduceSub, Int.reduceToNat, Nat.reduceAdd, Nat.reduceEqDiff, Nat.reduceLT, Nat.reduceLeDiff, Nat.reduceMul, reduceCtorEq, h5, r0, r1, hlen, cp, cq, hf]
        intro m
        have hne : decide (l = r) = false := decide_eq_false fun e => he (by rw [e])
        have := hK (w.drewN (j + m)) (Fr.drewN w _ _)
        rwa [hne] at this
    · simp (disch := omega) only [EO, ↓EP, EQ, EM, ↓reduceIte, Int.reduceAdd, Int.reduceEq, Int.reduceLE, Int.reduceLT, Int.reduceMul, Int.reduceNeg, Int.reducePow, Int.reduceSub, Int.reduceToNat, Nat.reduceAdd, Nat.reduceEqDiff, Nat.reduceLT, Nat.reduceLeDiff, Nat.reduceMul, reduceCtorEq, h5, r0, hlen]
      have hall : l = r := by
        have hkr : k = r.length := by omega
        subst hkr
        rwa [List.take_of_length_le (by omega), List.take_of_length_le (Nat.le_refl _)] at ht
      have := hK (w.drewN j) (Fr.drewN w _ _)
      rwa [decide_eq_true hall] at this
  · have hne : decide (l = r) = false := decide_eq_false fun e => hlen (by rw [e])
    have hf : ((l.length : Int) = (r.length : Int)) = False := eq_false hlen
    simp (disch := omega) only [EO, ↓EP, EQ, EM, ↓reduceIte, Int.reduceAdd, Int.reduceEq, Int.reduceLE, Int.reduceLT, Int.reduceMul, Int.reduceNeg, Int.reducePow, Int.reduceSub, Int.reduceToNat, Nat.reduceAdd, Nat.reduceEqDiff, Nat.reduceLT, Nat.reduceLeDiff, Nat.reduceMul, reduceCtorEq, Code.c37, hf]
    have := hK w (Fr.refl _ _)
    rwa [hne] at this
theorem sameN_t {w : World} {A B : Option Addr} {n m c d : Nat} {l : List Int} (hn : l.length = n) (hm : l.length = m) (hl : Rd w A (nums .u32 l)) (hr : Rd w B (nums .u32 l)) (h63 : n ≤ 4611686018427387904) (K : Value → World → Prop)
    (hK : ∀ w', Fr w w' nob → K (.bool true) w') : callK Tryd.prog 37 [.slice A n c, .slice B m d] w K :=
  sameN_spec hn hm hl hr h63 K fun w' f => by
    have := hK w' f
    have e : decide (l = l) = true := decide_eq_true rfl
    rwa [e]
end Go.Proofs.YtcflokckfjkdpaaDoor.Spec
end
section
set_option linter.unusedVariables false
set_option linter.unusedSimpArgs false
namespace Go.Proofs.YtcflokckfjkdpaaDoor.Spec
open Go Go.RowKit Go.Proofs Go.Proofs.YtcflokckfjkdpaaDoor.Eng Go.Proofs.YtcflokckfjkdpaaDoor.Code Go.Proofs.YtcflokckfjkdpaaDoor.Big
set_option maxRecDepth 100000
attribute [local irreducible] callK S.W opsW scrW
theorem Gw.slice {k : IntKind} {w w' : World} {v : Value} {l : List Int} (g : Gw k w w' v l) : ∃ B d, v = .slice B l.length d := by
  obtain ⟨B, d, e, _⟩ := g.vw
  exact ⟨B, d, e⟩
theorem Lnt.vw {k : IntKind} {w0 w : World} {v : Value} {l : List Int} {x y : Int} (h : Lnt k w0 w v l x y) : Vw k w v l := by
  obtain ⟨b, c, rfl, hc, _, hr⟩ := h.read
  exact ⟨_, c, rfl, by omega, hr⟩
theorem Lnt.nb {k : IntKind} {w0 w w' : World} {v : Value} {l : List Int} {x y : Int} (h : Lnt k w0 w v l x y) (f : Fr w w' nob) : Lnt k w0 w' v l x y := h.fr f fun _ _ e => e
end Go.Proofs.YtcflokckfjkdpaaDoor.Spec
end
section
set_option linter.unusedVariables false
set_option linter.unusedSimpArgs false
namespace Go.Proofs.YtcflokckfjkdpaaDoor.Spec
open Go Go.RowKit Go.Proofs Go.Proofs.YtcflokckfjkdpaaDoor.Eng Go.Proofs.YtcflokckfjkdpaaDoor.Code Go.Proofs.YtcflokckfjkdpaaDoor.Big
set_option maxRecDepth 100000
attribute [local irreducible] callK S.W opsW scrW
end Go.Proofs.YtcflokckfjkdpaaDoor.Spec
end
section
set_option linter.unusedVariables false
set_option linter.unusedSimpArgs false
namespace Go.Proofs.YtcflokckfjkdpaaDoor.Spec
open Go Go.RowKit Go.Proofs Go.Proofs.YtcflokckfjkdpaaDoor.Eng Go.Proofs.YtcflokckfjkdpaaDoor.Code Go.Proofs.YtcflokckfjkdpaaDoor.Big
set_option maxRecDepth 100000
attribute [local irreducible] callK S.W opsW scrW
theorem rtrim_vw {w : World} {va : Value} {l : List Int} (ha : Vw .u32 w va l) (hL : Lim l) (h47 : l.length ≤ 4194304) (K : Value → World → Prop)
    (hK : ∀ v w', Gw .u32 w w' v (limbs (val l)) → K v w') : callK Tryd.prog 38 [va] w K := by
  have b1 := (val_bd hL).1
  refine call_of Tryd.func38 Code.h38 (by simp [Code.c38]) ?_
  simp (disch := omega) only [EO, ↓EP, EQ, EM, ↓reduceIte, Int.reduceAdd, Int.reduceEq, Int.reduceLE, Int.reduceLT, Int.reduceMul, Int.reduceNeg, Int.reducePow, Int.reduceSub, Int.reduceToNat, Nat.reduceAdd, Nat.reduceEqDiff, Nat.reduceLT, Nat.reduceLeDiff, Nat.reduceMul, reduceCtorEq, Code.c38]
  refine digits_vw ha hL h47 _ fun v1 w1 g1 => ?_
  have k1 := digs_len_of b1 (n := l.length) (val_bd hL).2
  simp (disch := omega) only [EO, ↓EP, EQ, EM, ↓reduceIte, Int.reduceAdd, Int.reduceEq, Int.reduceLE, Int.reduceLT, Int.reduceMul, Int.reduceNeg, Int.reducePow, Int.reduceSub, Int.reduceToNat, Nat.reduceAdd, Nat.reduceEqDiff, Nat.reduceLT, Nat.reduceLeDiff, Nat.reduceMul, reduceCtorEq]
  refine limbs_vw g1.vw (Dg.digs_lim _) (by omega) _ fun v2 w2 g2 => ?_
  rw [Dg.digs_val b1] at g2
  simp (disch := omega) only [EO, ↓EP, EQ, EM, ↓reduceIte, Int.reduceAdd, Int.reduceEq, Int.reduceLE, Int.reduceLT, Int.reduceMul, Int.reduceNeg, Int.reducePow, Int.reduceSub, Int.reduceToNat, Nat.reduceAdd, Nat.reduceEqDiff, Nat.reduceLT, Nat.reduceLeDiff, Nat.reduceMul, reduceCtorEq]
  exact hK v2 w2 (g2.from g1.fr)
end Go.Proofs.YtcflokckfjkdpaaDoor.Spec
end
section
set_option linter.unusedVariables false
set_option linter.unusedSimpArgs false
namespace Go.Proofs.YtcflokckfjkdpaaDoor.Der
open Go Go.RowKit Go.Proofs Go.Proofs.YtcflokckfjkdpaaDoor.Eng Go.Proofs.YtcflokckfjkdpaaDoor.Code
set_option maxRecDepth 100000
attribute [local irreducible] callK S.W opsW scrW scrT
theorem whole_pos {d : List Int} (h : whole d = true) : 0 < d.length := by
  apply Nat.pos_of_ne_zero
  intro h0
  unfold whole at h
  rw [h0] at h
  simp at h
end Go.Proofs.YtcflokckfjkdpaaDoor.Der
end
section
set_option linter.unusedVariables false
set_option linter.unusedSimpArgs false
namespace Go.Proofs.YtcflokckfjkdpaaDoor.Der
open Go Go.RowKit Go.Proofs Go.Proofs.YtcflokckfjkdpaaDoor.Eng Go.Proofs.YtcflokckfjkdpaaDoor.Code
set_option maxRecDepth 100000
attribute [local irreducible] callK S.W opsW scrW scrT
structure LV (w : World) (X : Value) (ls : List (List Int)) : Prop where
  ex : ∃ A c vs, X = .slice A ls.length c ∧ ls.length ≤ c ∧ Rd w A vs ∧ vs.length = ls.length ∧ ∀ (i : Nat) v l, vs[i]? = some v → ls[i]? = some l → Vw .u8 w v l
theorem LV.nb {w w' : World} {X : Value} {ls : List (List Int)} (h : LV w X ls) (f : Fr w w' nob) : LV w' X ls := by
  obtain ⟨A, c, vs, e, hc, hr, hv, he⟩ := h.ex
  refine ⟨A, c, vs, e, hc, hr.nb f, hv, fun i v l h1 h2 => ?_⟩
  obtain ⟨B, d, e2, hd, hB⟩ := he i v l h1 h2
  exact ⟨B, d, e2, hd, hB.nb f⟩
theorem LV.at {w : World} {A : Option Addr} {n c : Nat} {ls : List (List Int)} (h : LV w (.slice A n c) ls) {i : Nat} (hi : i < ls.length) : ∃ ad dA dc, A = some ad ∧ n = ls.length ∧ w.cell? (ad.add i) = some (.slice dA ls[i].length dc) ∧ ls[i].length ≤ dc ∧ Rd w dA (nums .u8 ls[i]) := by
  obtain ⟨A', c', vs, e, hc, hr, hv, he⟩ := h.ex
  cases e
  have hiv : i < vs.length := by omega
  obtain ⟨ad, ea, hcell⟩ := hr.at (List.getElem?_eq_getElem hiv)
  obtain ⟨dA, dc, e2, hdc, hdr⟩ := he i vs[i] ls[i] (List.getElem?_eq_getElem hiv) (List.getElem?_eq_getElem hi)
  rw [e2] at hcell
  exact ⟨ad, dA, dc, ea, rfl, hcell, hdc, hdr⟩
end Go.Proofs.YtcflokckfjkdpaaDoor.Der
end
section
set_option linter.unusedVariables false
set_option linter.unusedSimpArgs false
namespace Go.Proofs.YtcflokckfjkdpaaDoor.Der
open Go Go.RowKit Go.Proofs Go.Proofs.YtcflokckfjkdpaaDoor.Eng Go.Proofs.YtcflokckfjkdpaaDoor.Code
set_option maxRecDepth 100000
attribute [local irreducible] callK S.W opsW scrW scrT
end Go.Proofs.YtcflokckfjkdpaaDoor.Der
end
section
set_option linter.unusedVariables false
set_option linter.unusedSimpArgs false
namespace Go.Proofs.YtcflokckfjkdpaaDoor.Der
open Go Go.RowKit Go.Proofs Go.Proofs.YtcflokckfjkdpaaDoor.Eng Go.Proofs.YtcflokckfjkdpaaDoor.Code
set_option maxRecDepth 100000
attribute [local irreducible] callK S.W opsW scrW scrT
structure Two (W w : World) (D : Value) (ld : List Int) (R : Value) (lr : List Int) : Prop where
  gd : Gw .u8 W w D ld
  gr : Gw .u8 W w R lr
  ap : ∀ b, blkOf D = some b → blkOf R ≠ some b
theorem Two.step {W w w' : World} {D R : Value} {ld lr : List Int} (t : Two W w D ld R lr) (f : Fr w w' nob) : Two W w' D ld R lr := ⟨t.gd.step f, t.gr.step f, t.ap⟩
end Go.Proofs.YtcflokckfjkdpaaDoor.Der
end
section
set_option linter.unusedVariables false
set_option linter.unusedSimpArgs false
namespace Go.Proofs.YtcflokckfjkdpaaDoor.Der
open Go Go.RowKit Go.Proofs Go.Proofs.YtcflokckfjkdpaaDoor.Eng Go.Proofs.YtcflokckfjkdpaaDoor.Code
set_option maxRecDepth 100000
attribute [local irreducible] callK S.W opsW scrW scrT
theorem own1 {k : IntKind} {w w' : World} {x : Int} (n : New w w' (nums k [x])) : Gw k w w' (.slice (some ⟨w.heap.size, 0, none⟩) 1 1) [x] := ⟨n.sl, fun b e => by cases e; exact Nat.le_refl _, n.fr nob⟩
end Go.Proofs.YtcflokckfjkdpaaDoor.Der
end
section
set_option linter.unusedVariables false
set_option linter.unusedSimpArgs false
namespace Go.Proofs.YtcflokckfjkdpaaDoor.Der
open Go Go.RowKit Go.Proofs Go.Proofs.YtcflokckfjkdpaaDoor.Eng Go.Proofs.YtcflokckfjkdpaaDoor.Code
set_option maxRecDepth 100000
attribute [local irreducible] callK S.W opsW scrW scrT
theorem sval_cons {x : Int} {r : List Int} (h : 0 < r.length) (hx : 0 ≤ x ∧ x < 256) : beVal (x :: r) = x * 256 ^ r.length + beVal r := by
  have key : ∀ (k : Nat) (r : List Int), r.length ≤ k → beVal (x :: r) = x * 256 ^ r.length + beVal r := by
    intro k
    induction k with
    | zero =>
      intro r hr
      have : r = [] := List.length_eq_zero_iff.1 (by omega)
      subst this
      simp [beVal]
    | succ k ih =>
      intro r hr
      rcases List.eq_nil_or_concat r with rfl | ⟨e, c, rfl⟩
      · simp [beVal]
      · rw [List.concat_eq_append] at hr ⊢
        have := ih e (by simp at hr; omega)
        rw [← List.cons_append, be_snoc, be_snoc, this, List.length_append, List.length_singleton, Int.pow_succ, Int.add_mul, Int.mul_assoc]
        omega
  exact key _ r (Nat.le_refl _)
theorem strip_step {l : List Int} (hb : ∀ x ∈ l, 0 ≤ x ∧ x < 256) (h0 : 0 < l.length) (hw : whole l = false) : 1 < l.length ∧ sval (l.drop 1) = sval l := by
  match l, h0 with
  | [x], _ => simp [whole] at hw
  | x :: y :: r, _ =>
    refine ⟨by simp, ?_⟩
    have hx := hb x (by simp)
    have hy := hb y (by simp)
    have hc := sval_cons (x := x) (r := y :: r) (by simp) hx
    have hp : (256 : Int) ^ (x :: y :: r).length = 256 ^ (y :: r).length * 256 := by rw [List.length_cons, Int.pow_succ]
    show sval (y :: r) = sval (x :: y :: r)
    unfold sval
    rw [hc, hp]
    have e0 : at' (x :: y :: r) 0 = x := rfl
    have e1 : at' (y :: r) 0 = y := rfl
    have e2 : at' (x :: y :: r) 1 = y := rfl
    unfold whole at hw
    rw [e0, e2] at hw
    simp at hw
    rw [e0, e1]
    generalize (256 : Int) ^ (y :: r).length = P
    by_cases hz : x = 0
    · subst hz
      have : y < 128 := by
        apply Int.not_le.1
        intro h
        have := hw (.inr h)
        omega
      rw [if_neg (by omega), if_neg (by omega)]; omega
    · have h2 := hw (.inl hz)
      rw [if_pos (by omega), if_pos (by omega), h2.1]; omega
theorem be_bv : ∀ (k : Nat) (l : List Int), l.length ≤ k → beVal l = Big.bv l
  | 0, l, h => by
    have : l = [] := List.length_eq_zero_iff.1 (by omega)
    subst this; rfl
  | k + 1, l, h => by
    rcases List.eq_nil_or_concat l with rfl | ⟨e, c, rfl⟩
    · rfl
    · rw [List.concat_eq_append] at h ⊢
      rw [be_snoc, be_bv k e (by simp at h; omega)]
      unfold Big.bv
      rw [List.reverse_append]
      show _ = c + 256 * Big.leb e.reverse
      omega
theorem putInt_id {d : List Int} (hb : ∀ x ∈ d, 0 ≤ x ∧ x < 256) (hw : whole d = true) (hl : d.length ≤ 9) : putIntR (sval d) = d := putInt_of 8 hb (whole_pos hw) hl hw
theorem putInt_good {n : Int} (h1 : -9223372036854775808 ≤ n) (h2 : n < 9223372036854775808) : Rowed (putIntR n) n 7 := by
  have r := putInt_row h1 h2
  have := putInt_id r.byt r.whole (by have := r.len; omega)
  rw [r.val] at this
  rwa [this]
theorem p7 {f : Nat} (h : f ≤ 7) : (256 : Int) ^ f ≤ 72057594037927936 ∧ (0 : Int) < 256 ^ f := by
  have : ∀ f : Nat, f < 8 → (256 : Int) ^ f ≤ 72057594037927936 ∧ (0 : Int) < 256 ^ f := by decide
  exact this f (by omega)
theorem mod_wrap (n : Int) : IntKind.u8.wrap n = n % 256 := wu8_mod n
set_option maxHeartbeats 1000000 in
theorem putint_vw {w : World} {n : Int} (h1 : -9223372036854775808 ≤ n) (h2 : n < 9223372036854775808) (K : Value → World → Prop)
    (hK : ∀ v' w', Gw .u8 w w' v' (putIntR n) → K v' w') : callK Tryd.prog 34 [.int .i64 n] w K := by
  refine call_of Tryd.func34 Code.h34 (by simp [Code.c34]) ?_
  have rr := putInt_row h1 h2
  have e7 : putIntR n = putIntGo 7 n := by
    have := putInt_id rr.byt rr.whole (by have := rr.len; omega)
    rwa [rr.val] at this
  rw [e7] at hK
  have ew := mod_wrap n
  simp (disch := omega) only [wu64, wu32, wu8, fdiv_nn, EO, ↓EP, EQ, EM, ↓reduceIte, Int.reduceAdd, Int.reduceEq, Int.reduceLE, Int.reduceLT, Int.reduceMul, Int.reduceNeg, Int.reducePow, Int.reduceSub, Int.reduceToNat, Nat.reduceAdd, Nat.reduceEqDiff, Nat.reduceLT, Nat.reduceLeDiff, Nat.reduceMul, reduceCtorEq, Code.c34, ew]
  refine bsl1 fun w1 n1 => ?_
  simp (disch := omega) only [wu64, wu32, wu8, fdiv_nn, EO, ↓EP, EQ, EM, ↓reduceIte, Int.reduceAdd, Int.reduceEq, Int.reduceLE, Int.reduceLT, Int.reduceMul, Int.reduceNeg, Int.reducePow, Int.reduceSub, Int.reduceToNat, Nat.reduceAdd, Nat.reduceEqDiff, Nat.reduceLT, Nat.reduceLeDiff, Nat.reduceMul, reduceCtorEq]
  refine loop_inv (fun t ρ w' => ∃ (x : Int) (f : Nat) (B : Value) (l : List Int), ρ 0 = .int .i64 x ∧ ρ 3 = B ∧ Gw .u8 w w' B (x % 256 :: l) ∧ t = f ∧ f ≤ 7 ∧ l.length + f = 7 ∧ -128 * 256 ^ f ≤ x ∧ x < 128 * 256 ^ f ∧ putIntGo f x ++ l = putIntGo 7 n) 7 ⟨n, 7, _, [], by simp (disch := omega) only [wu64, wu32, wu8, fdiv_nn, EO, ↓EP, EQ, EM, ↓reduceIte, Int.reduceAdd, Int.reduceEq, Int.reduceLE, Int.reduceLT, Int.reduceMul, Int.reduceNeg, Int.reducePow, Int.reduceSub, Int.reduceToNat, Nat.reduceAdd, Nat.reduceEqDiff, Nat.reduceLT, Nat.reduceLeDiff, Nat.reduceMul, reduceCtorEq], by simp (disch := omega) only [wu64, wu32, wu8, fdiv_nn, EO, ↓EP, EQ, EM, ↓reduceIte, Int.reduceAdd, Int.reduceEq, Int.reduceLE, Int.reduceLT, Int.reduceMul, Int.reduceNeg, Int.reducePow, Int.reduceSub, Int.reduceToNat, Nat.reduceAdd, Nat.reduceEqDiff, Nat.reduceLT, Nat.reduceLeDiff, Nat.reduceMul, reduceCtorEq], own1 n1, rfl, by omega, by simp, by omega, by omega, by simp⟩ ?_
  rintro t ρ w2 hf ⟨x, f, B, l, k0, k3, g, ht, hf7, hl, hx1, hx2, hs⟩ N hN
  clear hf
  have hx3 : -9223372036854775808 ≤ x ∧ x < 9223372036854775808 := by
    have := p7 hf7
    omega
  obtain ⟨BA, bc, rfl, hbc, hBr⟩ := readn g.sl rfl
  have e27 : (2 : Int) ^ 7 = 128 := rfl
  have e28 : (2 : Int) ^ 8 = 256 := rfl
  have fin : -128 ≤ x → x < 128 → x % 256 :: l = putIntGo 7 n := fun ha hb => by
    rw [← hs]
    cases f with
    | zero => rfl
    | succ f => rw [putIntGo, if_pos ⟨ha, hb⟩]; rfl
  by_cases hx0 : x / 128 = 0
  · have g' : Gw .u8 w w2 (.slice BA (l.length + 1) bc) (putIntGo 7 n) := by rw [← fin (by omega) (by omega)]; exact g
    simp (disch := omega) only [wu64, wu32, wu8, fdiv_nn, EO, ↓EP, EQ, EM, ↓reduceIte, Int.reduceAdd, Int.reduceEq, Int.reduceLE, Int.reduceLT, Int.reduceMul, Int.reduceNeg, Int.reducePow, Int.reduceSub, Int.reduceToNat, Nat.reduceAdd, Nat.reduceEqDiff, Nat.reduceLT, Nat.reduceLeDiff, Nat.reduceMul, reduceCtorEq, k0, k3, hx0, e27]
    exact hK _ w2 g'
  by_cases hxm : x / 128 = -1
  · have g' : Gw .u8 w w2 (.slice BA (l.length + 1) bc) (putIntGo 7 n) := by rw [← fin (by omega) (by omega)]; exact g
    simp (disch := omega) only [wu64, wu32, wu8, fdiv_nn, EO, ↓EP, EQ, EM, ↓reduceIte, Int.reduceAdd, Int.reduceEq, Int.reduceLE, Int.reduceLT, Int.reduceMul, Int.reduceNeg, Int.reducePow, Int.reduceSub, Int.reduceToNat, Nat.reduceAdd, Nat.reduceEqDiff, Nat.reduceLT, Nat.reduceLeDiff, Nat.reduceMul, reduceCtorEq, k0, k3, hxm, e27]
    exact hK _ w2 g'
  · obtain ⟨f, rfl⟩ : ∃ g, f = g + 1 := by
      cases f with
      | zero => simp at hx1 hx2; omega
      | succ f => exact ⟨f, rfl⟩
    rw [putIntGo, if_neg (by omega)] at hs
    rw [Int.pow_succ] at hx1 hx2
    have ew2 := mod_wrap (x / 256)
    simp (disch := omega) only [wu64, wu32, wu8, fdiv_nn, EO, ↓EP, EQ, EM, ↓reduceIte, Int.reduceAdd, Int.reduceEq, Int.reduceLE, Int.reduceLT, Int.reduceMul, Int.reduceNeg, Int.reducePow, Int.reduceSub, Int.reduceToNat, Nat.reduceAdd, Nat.reduceEqDiff, Nat.reduceLT, Nat.reduceLeDiff, Nat.reduceMul, reduceCtorEq, k0, k3, hx0, hxm, e27, e28, ew2]
    refine bsl1 fun w3 n3 => ?_
    simp (disch := omega) only [wu64, wu32, wu8, fdiv_nn, EO, ↓EP, EQ, EM, ↓reduceIte, Int.reduceAdd, Int.reduceEq, Int.reduceLE, Int.reduceLT, Int.reduceMul, Int.reduceNeg, Int.reducePow, Int.reduceSub, Int.reduceToNat, Nat.reduceAdd, Nat.reduceEqDiff, Nat.reduceLT, Nat.reduceLeDiff, Nat.reduceMul, reduceCtorEq, k3]
    refine app_num n3.sl rfl (hBr.nb (n3.fr nob)) (by simp; omega) (by omega) fun v4 w4 a4 => ?_
    have g4 := ((own1 n3).apd a4).from g.fr
    simp (disch := omega) only [wu64, wu32, wu8, fdiv_nn, EO, ↓EP, EQ, EM, ↓reduceIte, Int.reduceAdd, Int.reduceEq, Int.reduceLE, Int.reduceLT, Int.reduceMul, Int.reduceNeg, Int.reducePow, Int.reduceSub, Int.reduceToNat, Nat.reduceAdd, Nat.reduceEqDiff, Nat.reduceLT, Nat.reduceLeDiff, Nat.reduceMul, reduceCtorEq]
    exact hN f _ _ (by omega) ⟨x / 256, f, v4, x % 256 :: l, by simp (disch := omega) only [wu64, wu32, wu8, fdiv_nn, EO, ↓EP, EQ, EM, ↓reduceIte, Int.reduceAdd, Int.reduceEq, Int.reduceLE, Int.reduceLT, Int.reduceMul, Int.reduceNeg, Int.reducePow, Int.reduceSub, Int.reduceToNat, Nat.reduceAdd, Nat.reduceEqDiff, Nat.reduceLT, Nat.reduceLeDiff, Nat.reduceMul, reduceCtorEq, k0, e28], by simp (disch := omega) only [wu64, wu32, wu8, fdiv_nn, EO, ↓EP, EQ, EM, ↓reduceIte, Int.reduceAdd, Int.reduceEq, Int.reduceLE, Int.reduceLT, Int.reduceMul, Int.reduceNeg, Int.reducePow, Int.reduceSub, Int.reduceToNat, Nat.reduceAdd, Nat.reduceEqDiff, Nat.reduceLT, Nat.reduceLeDiff, Nat.reduceMul, reduceCtorEq], g4, rfl, by omega, by simp; omega, by omega, by omega, by rw [← hs]; simp⟩
end Go.Proofs.YtcflokckfjkdpaaDoor.Der
end
section
set_option linter.unusedVariables false
set_option linter.unusedSimpArgs false
namespace Go.Proofs.YtcflokckfjkdpaaDoor.Der
open Go Go.RowKit Go.Proofs Go.Proofs.YtcflokckfjkdpaaDoor.Eng Go.Proofs.YtcflokckfjkdpaaDoor.Code
set_option maxRecDepth 100000
attribute [local irreducible] callK S.W opsW scrW scrT
open Go.Proofs.YtcflokckfjkdpaaDoor.Big (val limbs bl bvs)
def putUintR (a : List Int) : List Int := bvs (bl (val a) / 8 + 1) (val a)
theorem sval_bd : ∀ (k : Nat) {d : List Int}, d.length = k + 1 → (∀ x ∈ d, 0 ≤ x ∧ x < 256) → -128 * 256 ^ k ≤ sval d ∧ sval d < 128 * 256 ^ k
  | 0, d, hk, hb => by
    match d, hk with
    | [x], _ =>
      have hx := hb x (by simp)
      rw [sval_one hx]
      split <;> omega
  | k + 1, d, hk, hb => by
    obtain ⟨e, c, rfl⟩ := last_of (show 0 < d.length by omega)
    have hc := hb c (by simp)
    have he : ∀ x ∈ e, 0 ≤ x ∧ x < 256 := fun x hx => hb x (by simp [hx])
    have hl : e.length = k + 1 := by simp at hk; exact hk
    have := sval_bd k hl he
    rw [sval_snoc (by omega), Int.pow_succ]
    omega
theorem putUint_row {V : Int} (h0 : 0 ≤ V) : (∀ x ∈ bvs (bl V / 8 + 1) V, 0 ≤ x ∧ x < 256) ∧ whole (bvs (bl V / 8 + 1) V) = true ∧ sval (bvs (bl V / 8 + 1) V) = V := by
  have hb : ∀ x ∈ bvs (bl V / 8 + 1) V, 0 ≤ x ∧ x < 256 := Big.bvs_byt _ _
  have hl := Big.bvs_len (bl V / 8 + 1) V
  have hlt : V < 2 ^ (8 * (bl V / 8) + 7) := (Big.bl_le h0).1 (by omega)
  have hp7 : (2 : Int) ^ (8 * (bl V / 8) + 7) = 256 ^ (bl V / 8) * 128 := by rw [Int.pow_add, ← Big.p8_p2]; rfl
  have hpp := Big.p8_pos (bl V / 8)
  have ht : at' (bvs (bl V / 8 + 1) V) 0 = V / 256 ^ (bl V / 8) % 256 := by
    have := Big.at_bvs (n := bl V / 8 + 1) (v := V) (i := bl V / 8) (by omega)
    rw [show bl V / 8 + 1 - 1 - bl V / 8 = 0 by omega] at this
    exact this
  have hsv : sval (bvs (bl V / 8 + 1) V) = V := by
    unfold sval
    have hd : V / 256 ^ (bl V / 8) < 128 := Int.ediv_lt_of_lt_mul hpp (by rw [hp7] at hlt; rw [Int.mul_comm]; exact hlt)
    have hd0 : 0 ≤ V / 256 ^ (bl V / 8) := Int.ediv_nonneg h0 (Int.le_of_lt hpp)
    rw [be_bv _ _ (Nat.le_refl _), Big.bv_bvs h0 (by rw [Int.pow_succ]; omega), ht, if_neg (by omega)]
    omega
  refine ⟨hb, ?_, hsv⟩
  cases hw : whole (bvs (bl V / 8 + 1) V) with
  | true => rfl
  | false =>
    obtain ⟨s1, s2⟩ := strip_step hb (by omega) hw
    obtain ⟨j, hj⟩ : ∃ j, bl V / 8 = j + 1 := ⟨bl V / 8 - 1, by omega⟩
    have := (sval_bd j (d := (bvs (bl V / 8 + 1) V).drop 1) (by simp; omega) (fun x hx => hb x (List.mem_of_mem_drop hx))).2
    rw [s2, hsv] at this
    have h9 : V < 2 ^ (8 * j + 7) := by
      rw [Int.pow_add, ← Big.p8_p2]
      have : (2 : Int) ^ 7 = 128 := rfl
      omega
    have := (Big.bl_le h0).2 h9
    omega
theorem bl_lim {l : List Int} (hL : Big.Lim l) {n : Nat} (h : l.length ≤ n) : bl (val l) ≤ 32 * n := (Big.bl_le (Big.val_bd hL).1).2 (by
  have := (Big.val_bd hL).2
  have := Big.pw_le h
  rw [← Big.pw_p2]; omega)
set_option maxHeartbeats 1000000 in
theorem putuint_vw {w : World} {va : Value} {l : List Int} (ha : Vw .u32 w va l) (hL : Big.Lim l) (h47 : l.length ≤ 4194304) (K : Value → World → Prop)
    (hK : ∀ v' w', Gw .u8 w w' v' (putUintR l) → K v' w') : callK Tryd.prog 36 [va] w K := by
  obtain ⟨A, c, rfl, hc, hr⟩ := ha
  refine call_of Tryd.func36 Code.h36 (by simp [Code.c36]) ?_
  simp (disch := omega) only [wu64, wu32, wu8, fdiv_nn, EO, ↓EP, EQ, EM, ↓reduceIte, Int.reduceAdd, Int.reduceEq, Int.reduceLE, Int.reduceLT, Int.reduceMul, Int.reduceNeg, Int.reducePow, Int.reduceSub, Int.reduceToNat, Nat.reduceAdd, Nat.reduceEqDiff, Nat.reduceLT, Nat.reduceLeDiff, Nat.reduceMul, reduceCtorEq, Code.c36]
  refine Spec.bits_vw ⟨A, c, rfl, hc, hr⟩ hL (by omega) _ ?_
  have hbl := bl_lim hL h47
  unfold putUintR at hK
  obtain ⟨N, hN⟩ : ∃ N : Nat, bl (val l) / 8 + 1 = N := ⟨_, rfl⟩
  have hN' : (bl (val l) : Int) / 8 + 1 = N := by omega
  rw [hN] at hK
  simp (disch := omega) only [wu64, wu32, wu8, fdiv_nn, EO, ↓EP, EQ, EM, ↓reduceIte, Int.reduceAdd, Int.reduceEq, Int.reduceLE, Int.reduceLT, Int.reduceMul, Int.reduceNeg, Int.reducePow, Int.reduceSub, Int.reduceToNat, Nat.reduceAdd, Nat.reduceEqDiff, Nat.reduceLT, Nat.reduceLeDiff, Nat.reduceMul, reduceCtorEq, hN']
  refine al_k (nums .u8 (List.replicate N 0)) (by rw [madeCells_list, nums_replicate]) fun w2 n2 => ?_
  have f2 := n2.fr nob
  simp (disch := omega) only [wu64, wu32, wu8, fdiv_nn, EO, ↓EP, EQ, EM, ↓reduceIte, Int.reduceAdd, Int.reduceEq, Int.reduceLE, Int.reduceLT, Int.reduceMul, Int.reduceNeg, Int.reducePow, Int.reduceSub, Int.reduceToNat, Nat.reduceAdd, Nat.reduceEqDiff, Nat.reduceLT, Nat.reduceLeDiff, Nat.reduceMul, reduceCtorEq, hN']
  refine loop_inv (fun t ρ w3 => ∃ (k : Nat) (o : List Int), ρ 13 = .int .i64 k ∧ k ≤ N ∧ t = N - k ∧ Blk w3 w.heap.size (nums .u8 o) ∧ o.length = N ∧ (∀ i, i < k → at' o (N - 1 - i : Nat) = val l / 256 ^ i % 256) ∧ (∀ j : Nat, j < N - k → at' o j = 0) ∧ Fr w w3 nob) N
    ⟨0, _, by simp (disch := omega) only [wu64, wu32, wu8, fdiv_nn, EO, ↓EP, EQ, EM, ↓reduceIte, Int.reduceAdd, Int.reduceEq, Int.reduceLE, Int.reduceLT, Int.reduceMul, Int.reduceNeg, Int.reducePow, Int.reduceSub, Int.reduceToNat, Nat.reduceAdd, Nat.reduceEqDiff, Nat.reduceLT, Nat.reduceLeDiff, Nat.reduceMul, reduceCtorEq], by omega, rfl, n2.blk, by simp, fun i h => by omega, fun j _ => Big.at_zeros _ _, f2⟩ ?_
  rintro t ρ w3 hf ⟨k, o, h13, hk, rfl, hB, ho, hset, hzero, f3⟩ M hM
  have q0 : ρ 0 = .slice A l.length c := by rw [hf 0 rfl]; simp (disch := omega) only [wu64, wu32, wu8, fdiv_nn, EO, ↓EP, EQ, EM, ↓reduceIte, Int.reduceAdd, Int.reduceEq, Int.reduceLE, Int.reduceLT, Int.reduceMul, Int.reduceNeg, Int.reducePow, Int.reduceSub, Int.reduceToNat, Nat.reduceAdd, Nat.reduceEqDiff, Nat.reduceLT, Nat.reduceLeDiff, Nat.reduceMul, reduceCtorEq]
  have q3 : ρ 3 = .int .i64 N := by rw [hf 3 rfl]; simp (disch := omega) only [wu64, wu32, wu8, fdiv_nn, EO, ↓EP, EQ, EM, ↓reduceIte, Int.reduceAdd, Int.reduceEq, Int.reduceLE, Int.reduceLT, Int.reduceMul, Int.reduceNeg, Int.reducePow, Int.reduceSub, Int.reduceToNat, Nat.reduceAdd, Nat.reduceEqDiff, Nat.reduceLT, Nat.reduceLeDiff, Nat.reduceMul, reduceCtorEq, hN']
  have q4 : ρ 4 = .slice (some ⟨w.heap.size, 0, none⟩) N N := by rw [hf 4 rfl]; simp (disch := omega) only [wu64, wu32, wu8, fdiv_nn, EO, ↓EP, EQ, EM, ↓reduceIte, Int.reduceAdd, Int.reduceEq, Int.reduceLE, Int.reduceLT, Int.reduceMul, Int.reduceNeg, Int.reducePow, Int.reduceSub, Int.reduceToNat, Nat.reduceAdd, Nat.reduceEqDiff, Nat.reduceLT, Nat.reduceLeDiff, Nat.reduceMul, reduceCtorEq]
  have q12 : ρ 12 = .int .i64 N := by rw [hf 12 rfl]; simp (disch := omega) only [wu64, wu32, wu8, fdiv_nn, EO, ↓EP, EQ, EM, ↓reduceIte, Int.reduceAdd, Int.reduceEq, Int.reduceLE, Int.reduceLT, Int.reduceMul, Int.reduceNeg, Int.reducePow, Int.reduceSub, Int.reduceToNat, Nat.reduceAdd, Nat.reduceEqDiff, Nat.reduceLT, Nat.reduceLeDiff, Nat.reduceMul, reduceCtorEq, hN']
  clear hf
  by_cases hkl : (k : Int) < (N : Int)
  · have hlb := Big.limb_byte hL k
    by_cases hin : (k : Int) / 4 < (l.length : Int)
    · obtain ⟨p, rfl, _, hp⟩ := (hr.nb f3).get (by rw [nums_length]; omega)
      have cp := hp.numN (j := k / 4) (by omega)
      have bx := hL.at (k / 4 : Nat)
      have ei : ((k : Int) / 4).toNat = k / 4 := by omega
      have ej : ((N : Int) - 1 - (k : Int)).toNat = N - 1 - k := by omega
      have em : min (8 * ((k : Int) % 4)).toNat 32 = 8 * (k % 4) := by omega
      have hp2 : (0 : Int) < 2 ^ (8 * (k % 4)) := Big.p2_pos _
      simp (disch := omega) only [wu64, wu32, wu8, fdiv_nn, EO, ↓EP, EQ, EM, ↓reduceIte, Int.reduceAdd, Int.reduceEq, Int.reduceLE, Int.reduceLT, Int.reduceMul, Int.reduceNeg, Int.reducePow, Int.reduceSub, Int.reduceToNat, Nat.reduceAdd, Nat.reduceEqDiff, Nat.reduceLT, Nat.reduceLeDiff, Nat.reduceMul, reduceCtorEq, W_join, h13, q0, q3, q4, q12, cp, ei, ej, em, wu8_mod, hlb]
      refine st_num hB (by omega) fun w4 p4 => ?_
      simp (disch := omega) only [wu64, wu32, wu8, fdiv_nn, EO, ↓EP, EQ, EM, ↓reduceIte, Int.reduceAdd, Int.reduceEq, Int.reduceLE, Int.reduceLT, Int.reduceMul, Int.reduceNeg, Int.reducePow, Int.reduceSub, Int.reduceToNat, Nat.reduceAdd, Nat.reduceEqDiff, Nat.reduceLT, Nat.reduceLeDiff, Nat.reduceMul, reduceCtorEq, h13]
      refine hM (N - (k + 1)) _ _ (by omega) ⟨k + 1, _, by simp (disch := omega) only [wu64, wu32, wu8, fdiv_nn, EO, ↓EP, EQ, EM, ↓reduceIte, Int.reduceAdd, Int.reduceEq, Int.reduceLE, Int.reduceLT, Int.reduceMul, Int.reduceNeg, Int.reducePow, Int.reduceSub, Int.reduceToNat, Nat.reduceAdd, Nat.reduceEqDiff, Nat.reduceLT, Nat.reduceLeDiff, Nat.reduceMul, reduceCtorEq, h13, Int.natCast_add], by omega, rfl, p4.blk, by simpa using ho, fun i hi => ?_, fun j hj => ?_, f3.own p4.fr fun x e => by omega⟩
      · by_cases hik : i = k
        · subst hik; rw [Big.at_setN (by omega)]
        · rw [Big.at_setO (by omega)]; exact hset i (by omega)
      · rw [Big.at_setO (by omega)]; exact hzero j (by omega)
    · simp (disch := omega) only [wu64, wu32, wu8, fdiv_nn, EO, ↓EP, EQ, EM, ↓reduceIte, Int.reduceAdd, Int.reduceEq, Int.reduceLE, Int.reduceLT, Int.reduceMul, Int.reduceNeg, Int.reducePow, Int.reduceSub, Int.reduceToNat, Nat.reduceAdd, Nat.reduceEqDiff, Nat.reduceLT, Nat.reduceLeDiff, Nat.reduceMul, reduceCtorEq, W_join, h13, q0, q3, q4, q12]
      refine hM (N - (k + 1)) _ _ (by omega) ⟨k + 1, _, by simp (disch := omega) only [wu64, wu32, wu8, fdiv_nn, EO, ↓EP, EQ, EM, ↓reduceIte, Int.reduceAdd, Int.reduceEq, Int.reduceLE, Int.reduceLT, Int.reduceMul, Int.reduceNeg, Int.reducePow, Int.reduceSub, Int.reduceToNat, Nat.reduceAdd, Nat.reduceEqDiff, Nat.reduceLT, Nat.reduceLeDiff, Nat.reduceMul, reduceCtorEq, h13, Int.natCast_add], by omega, rfl, hB, ho, fun i hi => ?_, fun j hj => hzero j (by omega), f3⟩
      by_cases hik : i = k
      · subst hik
        rw [hzero _ (by omega), ← hlb, Big.at_ge (by omega)]; simp
      · exact hset i (by omega)
  · have hke : k = N := by omega
    subst hke
    have := Big.bvs_of ho hset
    subst this
    simp (disch := omega) only [wu64, wu32, wu8, fdiv_nn, EO, ↓EP, EQ, EM, ↓reduceIte, Int.reduceAdd, Int.reduceEq, Int.reduceLE, Int.reduceLT, Int.reduceMul, Int.reduceNeg, Int.reducePow, Int.reduceSub, Int.reduceToNat, Nat.reduceAdd, Nat.reduceEqDiff, Nat.reduceLT, Nat.reduceLeDiff, Nat.reduceMul, reduceCtorEq, h13, q0, q3, q4, q12]
    have s5 : Sl .u8 w3 (.slice (some ⟨w.heap.size, 0, none⟩) k k) (bvs k (val l)) := .inr ⟨w.heap.size, [], by simp [Big.bvs_len], by simpa using hB⟩
    exact hK _ w3 ⟨s5, fun b e => by cases e; exact Nat.le_refl _, f3⟩
end Go.Proofs.YtcflokckfjkdpaaDoor.Der
end
section
set_option linter.unusedVariables false
set_option linter.unusedSimpArgs false
namespace Go.Proofs.YtcflokckfjkdpaaDoor.Der
open Go Go.RowKit Go.Proofs Go.Proofs.YtcflokckfjkdpaaDoor.Eng Go.Proofs.YtcflokckfjkdpaaDoor.Code
set_option maxRecDepth 100000
attribute [local irreducible] callK S.W opsW scrW scrT
end Go.Proofs.YtcflokckfjkdpaaDoor.Der
end
section
set_option linter.unusedVariables false
set_option linter.unusedSimpArgs false
namespace Go.Proofs.YtcflokckfjkdpaaDoor.Spec
open Go Go.RowKit Go.Proofs Go.Proofs.YtcflokckfjkdpaaDoor.Eng Go.Proofs.YtcflokckfjkdpaaDoor.Code
set_option maxRecDepth 100000
theorem Lnt.from {k : IntKind} {w0 w1 w : World} {v : Value} {l : List Int} {x y : Int} (h : Lnt k w1 w v l x y) (f : w0.heap.size ≤ w1.heap.size) : Lnt k w0 w v l x y := by
  obtain ⟨b, pad, rfl, hB, hb⟩ := h.ex
  exact ⟨b, pad, rfl, hB, by omega⟩
structure Lnts (w0 w : World) (X : Value) (l : List (List Int)) (vs : List Value) : Prop where
  g : Gg 1 w0 w X vs.length vs
  len : vs.length = l.length
  each : ∀ (i : Nat) (p : List Int) (v : Value), l[i]? = some p → vs[i]? = some v → Lnt .u8 w0 w v p 90 165
  sep : ∀ (i : Nat) (v : Value) (b : Nat), vs[i]? = some v → blkOf v = some b → blkOf X ≠ some b ∧ b < w.heap.size
theorem Lnts.nil (w : World) : Lnts w w (.slice none 0 0) [] [] :=
  ⟨Gg.nil 1 w, rfl, fun i p v h => by simp at h, fun i v b h => by simp at h⟩
theorem Lnts.nb {w0 w w' : World} {X : Value} {l : List (List Int)} {vs : List Value} (h : Lnts w0 w X l vs) (f : Fr w w' nob) : Lnts w0 w' X l vs :=
  ⟨h.g.step f, h.len, fun i p v h1 h2 => (h.each i p v h1 h2).fr f fun _ _ x => x, fun i v b h1 h2 => ⟨(h.sep i v b h1 h2).1, Nat.lt_of_lt_of_le (h.sep i v b h1 h2).2 f.size⟩⟩
theorem Lnts.add {w0 w w' : World} {X X' v : Value} {l : List (List Int)} {p : List Int} {vs : List Value} (h : Lnts w0 w X l vs) (hv : Lnt .u8 w0 w v p 90 165) (hs : ∀ b, blkOf v = some b → blkOf X ≠ some b) (a : Ag 1 w X (vs.length + 1) (vs ++ [v]) X' w') : Lnts w0 w' X' (l ++ [p]) (vs ++ [v]) := by
  have hvl : ∀ b, blkOf v = some b → b < w.heap.size := fun b e => by
    obtain ⟨b', pad, rfl, hB, _⟩ := hv.ex
    cases e; exact hB.lt
  have hX : ∀ b, b < w.heap.size → blkOf X ≠ some b → blkOf X' ≠ some b := fun b hb hn e => by
    rcases a.where_ with h | h
    · exact hn (h ▸ e)
    · have := h b e; omega
  refine ⟨?_, by simp [h.len], fun i q u h1 h2 => ?_, fun i u b h1 h2 => ?_⟩
  · rw [List.length_append]; exact h.g.apd a
  · by_cases hi : i < l.length
    · rw [List.getElem?_append_left hi] at h1
      rw [List.getElem?_append_left (by rw [h.len]; exact hi)] at h2
      exact (h.each i q u h1 h2).fr a.fr fun b e => (h.sep i u b h2 e).1
    · have hi' : i = l.length := by
        have := (List.getElem?_eq_some_iff.1 h1).1
        simp at this; omega
      subst hi'
      rw [List.getElem?_append_right (Nat.le_refl _)] at h1
      rw [List.getElem?_append_right (by rw [h.len]; exact Nat.le_refl _), h.len] at h2
      simp at h1 h2
      subst h1; subst h2
      exact hv.fr a.fr fun b e => hs b e
  · have hsz := a.fr.size
    by_cases hi : i < vs.length
    · rw [List.getElem?_append_left hi] at h1
      have := h.sep i u b h1 h2
      exact ⟨hX b this.2 this.1, by omega⟩
    · rw [List.getElem?_append_right (by omega)] at h1
      have h1' : u = v := by
        have := List.mem_of_getElem? h1
        simpa using this
      subst h1'
      have := hvl b h2
      exact ⟨hX b this (hs b h2), by omega⟩
end Go.Proofs.YtcflokckfjkdpaaDoor.Spec
end
section
set_option linter.unusedVariables false
set_option linter.unusedSimpArgs false
namespace Go.Proofs.YtcflokckfjkdpaaDoor.Der
open Go Go.RowKit Go.Proofs Go.Proofs.YtcflokckfjkdpaaDoor.Eng Go.Proofs.YtcflokckfjkdpaaDoor.Code
set_option maxRecDepth 100000
attribute [local irreducible] callK S.W opsW scrW scrT
theorem same_bytes {w : World} {v u : Value} {l : List Int} (hv : Vw .u8 w v l) (hu : Vw .u8 w u l) (h63 : l.length ≤ 140737488355320) (K : Value → World → Prop) (hK : ∀ w', Fr w w' nob → K (.bool true) w') : callK Tryd.prog 18 [v, u] w K := by
  obtain ⟨A, c, rfl, _, hA⟩ := hv
  obtain ⟨B, d, rfl, _, hB⟩ := hu
  refine Spec.same_spec rfl rfl hA hB (by omega) _ fun w' f => ?_
  rw [decide_eq_true rfl]
  exact hK w' f
end Go.Proofs.YtcflokckfjkdpaaDoor.Der
end
section
set_option linter.unusedVariables false
set_option linter.unusedSimpArgs false
namespace Go.Proofs.YtcflokckfjkdpaaDoor.Der
open Go Go.RowKit Go.Proofs Go.Proofs.YtcflokckfjkdpaaDoor.Eng Go.Proofs.YtcflokckfjkdpaaDoor.Code
set_option maxRecDepth 100000
attribute [local irreducible] callK S.W opsW scrW scrT
theorem same_n {w : World} {v u : Value} {l : List Int} (hv : Vw .u32 w v l) (hu : Vw .u32 w u l) (h63 : l.length ≤ 4611686018427387904) (K : Value → World → Prop) (hK : ∀ w', Fr w w' nob → K (.bool true) w') : callK Tryd.prog 37 [v, u] w K := by
  obtain ⟨A, c, rfl, _, hA⟩ := hv
  obtain ⟨B, d, rfl, _, hB⟩ := hu
  exact Spec.sameN_t rfl rfl hA hB h63 _ hK
theorem limbs_le {l : List Int} (hL : Big.Lim l) : (Big.limbs (Big.val l)).length ≤ l.length := Big.len_val hL
theorem putint_len {n : Int} (h1 : -9223372036854775808 ≤ n) (h2 : n < 9223372036854775808) : (putIntR n).length ≤ 8 := (putInt_good h1 h2).len
theorem putuint_len {a : List Int} (hL : Big.Lim a) {n : Nat} (h : a.length ≤ n) : (putUintR a).length ≤ 4 * n + 1 := by
  unfold putUintR
  rw [Big.bvs_len]
  have := bl_lim hL h
  omega
end Go.Proofs.YtcflokckfjkdpaaDoor.Der
end
section
set_option linter.unusedVariables false
set_option linter.unusedSimpArgs false
namespace Go.Proofs.YtcflokckfjkdpaaDoor.Der
open Go Go.RowKit Go.Proofs.YtcflokckfjkdpaaDoor.Eng
def dec (l : List Int) : Int := l.foldl (fun v x => v * 128 + x % 128) 0
theorem dec_snoc (l : List Int) (x : Int) : dec (l ++ [x]) = dec l * 128 + x % 128 := by simp [dec]
def High (l : List Int) : Prop := (∀ x ∈ l, 128 ≤ x ∧ x < 256) ∧ (l = [] ∨ at' l 0 ≠ 128)
theorem High.nil : High [] := ⟨by simp, .inl rfl⟩
theorem high_last {l : List Int} {x : Int} (h : High (l ++ [x])) : High l ∧ 128 ≤ x ∧ x < 256 ∧ (l = [] → x ≠ 128) := by
  refine ⟨⟨fun y hy => h.1 y (by simp [hy]), ?_⟩, (h.1 x (by simp)).1, (h.1 x (by simp)).2, fun e => ?_⟩
  · cases l with
    | nil => exact .inl rfl
    | cons y r => exact .inr (by have := h.2; simp at this; exact this)
  · subst e
    have := h.2
    simp at this
    exact this
theorem dec_nn : ∀ (k : Nat) {l : List Int}, l.length ≤ k → High l → 0 ≤ dec l ∧ (l ≠ [] → 0 < dec l)
  | 0, l, hk, h => by
    have : l = [] := List.length_eq_zero_iff.1 (by omega)
    subst this; exact ⟨by simp [dec], fun h => (h rfl).elim⟩
  | k + 1, l, hk, h => by
    rcases List.eq_nil_or_concat l with rfl | ⟨e, c, rfl⟩
    · exact ⟨by simp [dec], fun h => (h rfl).elim⟩
    · rw [List.concat_eq_append] at h hk ⊢
      obtain ⟨h1, h2, h3, h4⟩ := high_last h
      obtain ⟨i1, i2⟩ := dec_nn k (by simp at hk; omega) h1
      rw [dec_snoc]
      by_cases he : e = []
      · subst he
        have := h4 rfl
        exact ⟨by simp [dec]; omega, fun _ => by simp [dec]; omega⟩
      · have := i2 he
        exact ⟨by omega, fun _ => by omega⟩
theorem hi_dec : ∀ (f : Nat) {l : List Int}, High l → dec l < 128 ^ f → sevenHi f (dec l).toNat = l
  | 0, l, h, hd => by
    have := dec_nn _ (Nat.le_refl _) h
    rcases Classical.em (l = []) with rfl | hn
    · rfl
    · have := this.2 hn; simp at hd; omega
  | f + 1, l, h, hd => by
    rcases List.eq_nil_or_concat l with rfl | ⟨e, c, rfl⟩
    · rfl
    · rw [List.concat_eq_append] at h hd ⊢
      obtain ⟨h1, h2, h3, h4⟩ := high_last h
      have hp := (dec_nn _ (Nat.le_refl _) h).2 (by simp)
      have he := (dec_nn _ (Nat.le_refl _) h1).1
      rw [Int.pow_succ] at hd
      rw [dec_snoc] at hd hp ⊢
      rw [sevenHi, if_neg (by omega), show (dec e * 128 + c % 128).toNat / 128 = (dec e).toNat by omega, hi_dec f h1 (by omega)]
      congr 2
      omega
theorem seven_dec {l : List Int} {x : Int} (h : High l) (hx : 0 ≤ x ∧ x < 128) (hd : dec (l ++ [x]) ≤ 1099511627776) : sevenR (dec (l ++ [x])).toNat = l ++ [x] := by
  have hn := (dec_nn _ (Nat.le_refl _) h).1
  rw [dec_snoc] at hd ⊢
  unfold sevenR
  rw [show (dec l * 128 + x % 128).toNat / 128 = (dec l).toNat by omega, hi_dec 10 h (by omega)]
  congr 2
  omega
def txt : List Nat → List UInt8
  | [] => []
  | x :: r => digs x ++ r.flatMap fun y => 46 :: digs y
def encA : List Nat → List Int
  | x :: y :: r => sevenR (40 * x + y) ++ r.flatMap fun v => sevenR v
  | _ => []
structure Arcs (A : List Nat) : Prop where
  two : 2 ≤ A.length
  le : ∀ v ∈ A, v ≤ 2147483647
  top : A.getD 0 0 ≤ 2 ∧ (A.getD 0 0 < 2 → A.getD 1 0 < 40)
theorem txt_add {A : List Nat} (h : A ≠ []) (v : Nat) : txt (A ++ [v]) = txt A ++ (46 :: digs v) := by
  cases A with
  | nil => exact (h rfl).elim
  | cons x r => simp [txt]
theorem encA_add {A : List Nat} (h : 2 ≤ A.length) (v : Nat) : encA (A ++ [v]) = encA A ++ sevenR v := by
  match A, h with
  | x :: y :: r, _ => simp [encA]
theorem Arcs.add {A : List Nat} (h : Arcs A) {v : Nat} (hv : v ≤ 2147483647) : Arcs (A ++ [v]) := by
  refine ⟨by have := h.two; simp; omega, fun u hu => ?_, ?_⟩
  · rw [List.mem_append] at hu
    rcases hu with hu | hu
    · exact h.le u hu
    · simp only [List.mem_singleton] at hu; subst hu; exact hv
  · match A, h.two, h.top with
    | x :: y :: r, _, t => exact t
theorem txt_ne {A : List Nat} (h : A ≠ []) : txt A ≠ [] := by
  cases A with
  | nil => exact (h rfl).elim
  | cons x r => simp [txt, digs_ne]
theorem satA_min (v d x : Int) (hd : 0 ≤ d) (hv : v = min d 1099511627776) : satA (v * 128 + x % 128) = min (d * 128 + x % 128) 1099511627776 := by
  unfold satA
  have : 0 ≤ x % 128 ∧ x % 128 < 128 := by omega
  split <;> omega
theorem oidGo_ok : ∀ (l : List Int) (v : Int) (pre : List Int) (A : List Nat) (D : List Int), (∀ x ∈ l, 0 ≤ x ∧ x < 256) → High pre → v = min (dec pre) 1099511627776 → (A = [] ∨ Arcs A) → D = encA A →
    padGo (decide (pre = [])) l = false → (l = [] → pre = []) → (∀ x, l.getLast? = some x → x < 128) → (oidGo l v (txt A)).2 = 0 →
    ∃ A', (oidGo l v (txt A)).1 = txt A' ∧ (A' = [] ∨ Arcs A') ∧ (l ≠ [] → A' ≠ []) ∧ D ++ (pre ++ l) = encA A'
  | [], v, pre, A, D, _, _, _, hA, hD, _, he, _, _ => by
    rw [he rfl]
    exact ⟨A, rfl, hA, fun h => (h rfl).elim, by simpa using hD⟩
  | x :: r, v, pre, A, D, hb, hp, hv, hA, hD, hpad, he, hl, h0 => by
    have hx := hb x (by simp)
    have hr : ∀ y ∈ r, 0 ≤ y ∧ y < 256 := fun y hy => hb y (by simp [hy])
    have hn := (dec_nn _ (Nat.le_refl _) hp).1
    have hsat := satA_min v (dec pre) x hn hv
    rw [← dec_snoc] at hsat
    have hl' : ∀ y, r.getLast? = some y → y < 128 := fun y hy => hl y (by
      cases r with
      | nil => simp at hy
      | cons z q => rw [List.getLast?_cons_cons]; exact hy)
    rw [padGo, Bool.or_eq_false_iff] at hpad
    rw [oidGo] at h0 ⊢
    by_cases h128 : 128 ≤ x
    · rw [if_pos h128] at h0 ⊢
      have hrn : r ≠ [] := fun e => by
        subst e
        have := hl x (by simp)
        omega
      have hnew : High (pre ++ [x]) := by
        refine ⟨fun y hy => ?_, .inr ?_⟩
        · rw [List.mem_append] at hy
          rcases hy with hy | hy
          · exact hp.1 y hy
          · simp only [List.mem_singleton] at hy; subst hy; omega
        · cases hpre : pre with
          | nil =>
            subst hpre
            have h1 := hpad.1
            simp at h1
            exact h1
          | cons y q =>
            have := hp.2
            rw [hpre] at this
            simp at this
            exact this
      obtain ⟨A', h1, h2, h3, h4⟩ := oidGo_ok r _ (pre ++ [x]) A D hr hnew hsat hA hD (by
        have h2 := hpad.2
        rw [decide_eq_false (by omega)] at h2
        rw [decide_eq_false (by simp)]
        exact h2) (fun e => (hrn e).elim) hl' h0
      exact ⟨A', h1, h2, fun _ => h3 hrn, by rw [← h4]; simp⟩
    · rw [if_neg h128] at h0 ⊢
      have hpad2 : padGo (decide (([] : List Int) = [])) r = false := by
        have h2 := hpad.2
        rw [decide_eq_true (by omega)] at h2
        rw [decide_eq_true rfl]
        exact h2
      by_cases hs : A = []
      · subst hs
        have tn : txt [] = [] := rfl
        rw [if_pos tn] at h0 ⊢
        split at h0
        · simp at h0
        · rename_i hle
          rw [if_neg hle]
          have hV : satA (v * 128 + x % 128) = dec (pre ++ [x]) := by omega
          rw [hV] at h0 hle ⊢
          have hdn : 0 ≤ dec (pre ++ [x]) := by rw [dec_snoc]; omega
          have henc := seven_dec hp (x := x) (by omega) (by omega)
          generalize dec (pre ++ [x]) = V at h0 hle hV hdn henc ⊢
          obtain ⟨X, hX⟩ : ∃ X : Nat, (min (V / 40) 2).toNat = X := ⟨_, rfl⟩
          obtain ⟨Y, hY⟩ : ∃ Y : Nat, (V - 40 * min (V / 40) 2).toNat = Y := ⟨_, rfl⟩
          rw [hX, hY] at h0 ⊢
          have ht : digs X ++ (46 :: digs Y) = txt [X, Y] := by simp [txt]
          rw [ht] at h0 ⊢
          obtain ⟨A', h1, h2, h3, h4⟩ := oidGo_ok r 0 [] [X, Y] (pre ++ [x]) hr High.nil (by simp [dec]; omega) (.inr ⟨by simp, by simp; omega, by simp; omega⟩) (by
            rw [encA, ← henc]; simp; congr 1; omega) hpad2 (fun _ => rfl) hl' h0
          refine ⟨A', h1, h2, fun _ => ?_, ?_⟩
          · intro e
            subst e
            simp [encA] at h4
          · rw [← h4, hD]; simp [encA]
      · have hA' : Arcs A := hA.resolve_left hs
        rw [if_neg (txt_ne hs)] at h0 ⊢
        split at h0
        · simp at h0
        · rename_i hle
          rw [if_neg hle]
          have hV : satA (v * 128 + x % 128) = dec (pre ++ [x]) := by omega
          rw [hV] at h0 hle ⊢
          have hdn : 0 ≤ dec (pre ++ [x]) := by rw [dec_snoc]; omega
          have henc := seven_dec hp (x := x) (by omega) (by omega)
          generalize dec (pre ++ [x]) = V at h0 hle hV hdn henc ⊢
          rw [← txt_add hs] at h0 ⊢
          obtain ⟨A', h1, h2, h3, h4⟩ := oidGo_ok r 0 [] (A ++ [V.toNat]) (D ++ (pre ++ [x])) hr High.nil (by simp [dec]; omega) (.inr (hA'.add (by omega))) (by
            rw [encA_add hA'.two, henc, hD]) hpad2 (fun _ => rfl) hl' h0
          refine ⟨A', h1, h2, fun _ => ?_, ?_⟩
          · intro e
            subst e
            simp [encA] at h4
          · rw [← h4]; simp
theorem of_dig {u : Nat} (h : u < 10) : ((UInt8.ofNat (48 + u)).toNat : Int) = 48 + u := by
  rw [UInt8.toNat_ofNat']; omega
theorem digs_go : ∀ (f u : Nat), u < 10 ^ (f + 1) → u ≤ 1099511627776 → ∀ (l r : List Int), ∃ k, 0 < k ∧ arcsGo (ints (digsF (f + 1) u) ++ r) l 0 0 = arcsGo r l u k
  | f, u, h, hm, l, r => by
    rw [digsF]
    by_cases h10 : u < 10
    · rw [if_pos h10]
      refine ⟨1, by omega, ?_⟩
      show arcsGo (((UInt8.ofNat (48 + u)).toNat : Int) :: r) l 0 0 = _
      rw [of_dig h10, arcsGo, if_neg (by omega), if_neg (by omega), show satA (10 * 0 + (48 + (u : Int) - 48)) = u by unfold satA; rw [if_neg (by omega)]; omega]
      rfl
    · rw [if_neg h10]
      cases f with
      | zero => simp at h; omega
      | succ f =>
      rw [Nat.pow_succ] at h
      obtain ⟨k, hk, e⟩ := digs_go f (u / 10) (by omega) (by omega) l ((48 + ((u % 10 : Nat) : Int)) :: r)
      refine ⟨min (k + 1) 20, by omega, ?_⟩
      rw [show ints (digsF (f + 1) (u / 10) ++ [UInt8.ofNat (48 + u % 10)]) ++ r = ints (digsF (f + 1) (u / 10)) ++ ((48 + ((u % 10 : Nat) : Int)) :: r) by
        unfold ints; rw [List.map_append, List.append_assoc]; congr 1; simp only [List.map_cons, List.map_nil, List.singleton_append]; rw [of_dig (by omega)]]
      rw [e, arcsGo, if_neg (by omega), if_neg (by omega), show satA (10 * ((u / 10 : Nat) : Int) + (48 + ((u % 10 : Nat) : Int) - 48)) = u by unfold satA; rw [if_neg (by omega)]; omega]
theorem dot_go {l r : List Int} {u : Int} {k : Nat} (hk : 0 < k) : arcsGo (46 :: r) l u k = arcsGo r (l ++ [u]) 0 0 := by
  rw [arcsGo, if_pos ⟨rfl, hk⟩]
theorem rest_go : ∀ (rest : List Nat) (l : List Int) (v : Int) (k : Nat), 0 < k → (∀ y ∈ rest, y ≤ 2147483647) → arcsGo (ints (rest.flatMap fun y => 46 :: digs y) ++ [46]) l v k = some (l ++ [v] ++ rest.map fun (y : Nat) => (y : Int))
  | [], l, v, k, hk, _ => by
    show arcsGo [46] l v k = _
    rw [dot_go hk, arcsGo]; simp
  | y :: rest, l, v, k, hk, hy => by
    have e : ints ((y :: rest).flatMap fun y => 46 :: digs y) ++ [46] = 46 :: (ints (digs y) ++ (ints (rest.flatMap fun y => 46 :: digs y) ++ [46])) := by
      simp [ints]
    have := hy y (by simp)
    rw [e, dot_go hk]
    obtain ⟨k', hk', e2⟩ := digs_go 19 y (by omega) (by omega) (l ++ [v]) (ints (rest.flatMap fun y => 46 :: digs y) ++ [46])
    rw [show ints (digs y) = ints (digsF 20 y) from rfl, e2, rest_go rest _ _ k' hk' fun z hz => hy z (by simp [hz])]
    simp
theorem arcs_txt {A : List Nat} (h : Arcs A) : arcsR (ints (txt A)) = some (A.map fun (y : Nat) => (y : Int)) := by
  have two := h.two
  have le := h.le
  have top := h.top
  match A, two, le, top with
  | x :: y :: r, _, le, top =>
    unfold arcsR
    have e : ints (txt (x :: y :: r)) ++ [46] = ints (digs x) ++ (ints ((y :: r).flatMap fun y => 46 :: digs y) ++ [46]) := by
      simp [ints, txt]
    have := le x (by simp)
    obtain ⟨k', hk', e2⟩ := digs_go 19 x (by omega) (by omega) [] (ints ((y :: r).flatMap fun y => 46 :: digs y) ++ [46])
    rw [e, show ints (digs x) = ints (digsF 20 x) from rfl, e2, rest_go (y :: r) _ _ k' hk' fun z hz => le z (by simp only [List.mem_cons] at hz ⊢; exact .inr hz)]
    simp only [List.nil_append, List.singleton_append, List.map_cons]
    have t1 : x ≤ 2 := top.1
    have t2 : x < 2 → y < 40 := top.2
    have a0 : at' ((x : Int) :: (y : Int) :: r.map fun (y : Nat) => (y : Int)) 0 = x := rfl
    have a1 : at' ((x : Int) :: (y : Int) :: r.map fun (y : Nat) => (y : Int)) 1 = y := rfl
    rw [if_neg]
    rw [a0, a1]
    simp only [List.length_cons]
    omega
theorem put_txt {A : List Nat} (h : Arcs A) : putOidR (ints (txt A)) = (encA A, 0) := by
  unfold putOidR
  rw [arcs_txt h]
  simp only
  have hany : ((A.map fun (y : Nat) => (y : Int)).any fun v => decide (2147483647 < v)) = false := by
    rw [List.any_eq_false]
    intro v hv
    obtain ⟨y, hy, rfl⟩ := List.mem_map.1 hv
    have := h.le y hy
    simp; omega
  rw [hany]
  have two := h.two
  match A, two with
  | x :: y :: r, _ =>
    simp only [List.map_cons, List.drop_succ_cons, List.drop_zero, Bool.false_eq_true, if_false, encA]
    have a0 : at' ((x : Int) :: (y : Int) :: r.map fun (y : Nat) => (y : Int)) 0 = x := rfl
    have a1 : at' ((x : Int) :: (y : Int) :: r.map fun (y : Nat) => (y : Int)) 1 = y := rfl
    rw [a0, a1, show ((40 * (x : Int) + y).toNat) = 40 * x + y by omega]
    simp [List.flatMap_map]
theorem oid_put {d : List Int} (hb : ∀ x ∈ d, 0 ≤ x ∧ x < 256) (h : (oidR d).2 = 0) : putOidR (ints (oidR d).1) = (d, 0) := by
  unfold oidR at h ⊢
  split at h
  · simp at h
  · rename_i h1
    rw [if_neg h1]
    split at h
    · simp at h
    · rename_i h2
      rw [if_neg h2]
      obtain ⟨A', e1, e2, e3, e4⟩ := oidGo_ok d 0 [] [] [] hb High.nil (by simp [dec]; omega) (.inl rfl) rfl (by simpa using h2) (fun _ => rfl) (fun x hx => by
        have hd : d ≠ [] := fun e => by subst e; simp at hx
        rw [List.getLast?_eq_getElem?] at hx
        have : at' d ((d.length - 1 : Nat) : Int) = x := by rw [atN, List.getD_eq_getElem?_getD, hx]; rfl
        omega) h
      have hne : A' ≠ [] := e3 fun e => by subst e; simp at h1
      rw [show ([] : List UInt8) = txt [] from rfl, e1, put_txt (e2.resolve_left hne), ← e4]
      simp
end Go.Proofs.YtcflokckfjkdpaaDoor.Der
end
section
set_option linter.unusedVariables false
set_option linter.unusedSimpArgs false
namespace Go.Proofs.YtcflokckfjkdpaaDoor.Der
open Go Go.RowKit Go.Proofs Go.Proofs.YtcflokckfjkdpaaDoor.Eng Go.Proofs.YtcflokckfjkdpaaDoor.Code
set_option maxRecDepth 100000
attribute [local irreducible] callK S.W opsW scrW scrT
theorem i64_id {n : Int} (h1 : -9223372036854775808 ≤ n) (h2 : n < 9223372036854775808) : IntKind.i64.wrap n = n := by
  simp only [IntKind.wrap, IntKind.signed, IntKind.bits]
  simp
  omega
theorem int_there {n : Int} (h1 : -9223372036854775808 ≤ n) (h2 : n < 9223372036854775808) : intR (putIntR n) = (n, 0) := by
  have r := putInt_good h1 h2
  unfold intR
  rw [if_neg (by rw [r.whole]; simp), if_neg (by have := r.len; omega)]
  have e : beVal (putIntR n) - (if 128 ≤ at' (putIntR n) 0 then 256 ^ (putIntR n).length else 0) = n := r.val
  rw [e, i64_id h1 h2]
theorem int_back {d : List Int} (hb : ByteL d) (h : (intR d).2 = 0) : putIntR (intR d).1 = d := by
  unfold intR at h ⊢
  split at h
  · simp at h
  · rename_i h1
    rw [if_neg h1]
    split at h
    · simp at h
    · rename_i h2
      rw [if_neg h2]
      have hw : whole d = true := by simpa using h1
      have hp := whole_pos hw
      have hm := byteL_mem hb
      obtain ⟨k, hk⟩ : ∃ k, d.length = k + 1 := ⟨d.length - 1, by omega⟩
      have bd := sval_bd k hk hm
      have := p7 (f := k) (by omega)
      have e : beVal d - (if 128 ≤ at' d 0 then 256 ^ d.length else 0) = sval d := rfl
      rw [e]
      show putIntR (IntKind.i64.wrap (sval d)) = d
      rw [i64_id (by omega) (by omega)]
      exact putInt_id hm hw (by omega)
theorem int_rng {d : List Int} : -9223372036854775808 ≤ (intR d).1 ∧ (intR d).1 < 9223372036854775808 := by
  unfold intR
  split
  · omega
  · split
    · omega
    · show -9223372036854775808 ≤ IntKind.i64.wrap _ ∧ IntKind.i64.wrap _ < 9223372036854775808
      generalize beVal d - (if 128 ≤ at' d 0 then 256 ^ d.length else 0) = x
      simp only [IntKind.wrap, IntKind.signed, IntKind.bits]
      simp
      omega
theorem bv_strip : ∀ (l : List Int), Big.bv (stripZ l) = Big.bv l
  | [] => rfl
  | x :: r => by
    rw [stripZ]
    split
    · rename_i h
      rw [bv_strip r, h]
      unfold Big.bv
      rw [List.reverse_cons, Big.leb_app]
      simp [Big.leb]
    · rfl
theorem strip_le : ∀ (l : List Int), (stripZ l).length ≤ l.length
  | [] => by simp [stripZ]
  | x :: r => by
    rw [stripZ]
    have := strip_le r
    split
    · simp; omega
    · simp
theorem uint_there {a : List Int} (hL : Big.Lim a) (h : a.length ≤ 500) : uintR (putUintR a) = (Big.limbs (Big.val a), 0) := by
  have hbd := Big.val_bd hL
  obtain ⟨p1, p2, p3⟩ := putUint_row hbd.1
  have pl := putuint_len hL h
  have bl := bl_lim hL h
  unfold uintR
  have hb0 : ¬ 128 ≤ at' (putUintR a) 0 := by
    intro h128
    have e : sval (putUintR a) = Big.val a := p3
    unfold sval at e
    rw [if_pos h128, be_bv _ _ (Nat.le_refl _)] at e
    have := (Big.bv_bd (l := putUintR a) p1).2
    omega
  rw [if_neg (by rw [show whole (putUintR a) = true from p2]; simp), if_neg hb0]
  unfold Big.fbR
  rw [if_neg (by have := strip_le (putUintR a); omega), bv_strip]
  have : Big.bv (putUintR a) = Big.val a := by
    have e : sval (putUintR a) = Big.val a := p3
    unfold sval at e
    rw [if_neg hb0, be_bv _ _ (Nat.le_refl _)] at e
    omega
  rw [this]
theorem oidGo_len : ∀ (l : List Int) (v : Int) (s : List UInt8), (oidGo l v s).1.length ≤ s.length + 42 * l.length
  | [], v, s => by simp [oidGo]
  | x :: r, v, s => by
    rw [oidGo]
    have d1 := digs_len
    split
    · have := oidGo_len r (satA (v * 128 + x % 128)) s
      simp only [List.length_cons]; omega
    · split
      · split
        · simp
        · rename_i hs _
          refine Nat.le_trans (oidGo_len r 0 _) ?_
          have a1 := d1 (min (satA (v * 128 + x % 128) / 40) 2).toNat
          have a2 := d1 (satA (v * 128 + x % 128) - 40 * min (satA (v * 128 + x % 128) / 40) 2).toNat
          simp only [List.length_append, List.length_cons]
          omega
      · split
        · simp
        · refine Nat.le_trans (oidGo_len r 0 _) ?_
          have a2 := d1 (satA (v * 128 + x % 128)).toNat
          simp only [List.length_append, List.length_cons]
          omega
theorem oid_tlen (d : List Int) : (oidR d).1.length ≤ 42 * d.length := by
  unfold oidR
  split
  · simp
  · split
    · simp
    · have := oidGo_len d 0 []
      simpa using this
set_option maxHeartbeats 4000000 in
theorem derthere_vw {w : World} (hT : TbP w) {n : Int} {v va : Value} {d a : List Int} (hd : Vw .u8 w v d) (hb : ByteL d) (ha : Vw .u32 w va a) (hL : Big.Lim a) (h1 : -9223372036854775808 ≤ n) (h2 : n < 9223372036854775808) (hd63 : d.length ≤ 9223372036854775807) (K : Value → World → Prop)
    (hK : ∀ w', Fr w w' nob → K (.bool true) w') : callK Tryd.prog 9 [.int .i64 n, va, v] w K := by
  have hd0 := hd
  have ha0 := ha
  obtain ⟨A, c, rfl, hc, hr⟩ := hd0
  obtain ⟨A2, c2, rfl, hc2, hr2⟩ := ha0
  refine call_of Tryd.func9 Code.h9 (by simp [Code.c9]) ?_
  by_cases hm2 : (100 : Int) < (a.length : Int)
  · simp (disch := omega) only [wu64, wu32, wu8, fdiv_nn, EO, ↓EP, EQ, EM, ↓reduceIte, Int.reduceAdd, Int.reduceEq, Int.reduceLE, Int.reduceLT, Int.reduceMul, Int.reduceNeg, Int.reducePow, Int.reduceSub, Int.reduceToNat, Nat.reduceAdd, Nat.reduceEqDiff, Nat.reduceLT, Nat.reduceLeDiff, Nat.reduceMul, reduceCtorEq, Code.c9]
    refine live_vw hT _ fun w1 f1 => ?_
    simp (disch := omega) only [wu64, wu32, wu8, fdiv_nn, EO, ↓EP, EQ, EM, ↓reduceIte, Int.reduceAdd, Int.reduceEq, Int.reduceLE, Int.reduceLT, Int.reduceMul, Int.reduceNeg, Int.reducePow, Int.reduceSub, Int.reduceToNat, Nat.reduceAdd, Nat.reduceEqDiff, Nat.reduceLT, Nat.reduceLeDiff, Nat.reduceMul, reduceCtorEq]
    exact hK w1 f1
  by_cases hm : (2000 : Int) < (d.length : Int)
  · simp (disch := omega) only [wu64, wu32, wu8, fdiv_nn, EO, ↓EP, EQ, EM, ↓reduceIte, Int.reduceAdd, Int.reduceEq, Int.reduceLE, Int.reduceLT, Int.reduceMul, Int.reduceNeg, Int.reducePow, Int.reduceSub, Int.reduceToNat, Nat.reduceAdd, Nat.reduceEqDiff, Nat.reduceLT, Nat.reduceLeDiff, Nat.reduceMul, reduceCtorEq, Code.c9]
    refine live_vw hT _ fun w1 f1 => ?_
    simp (disch := omega) only [wu64, wu32, wu8, fdiv_nn, EO, ↓EP, EQ, EM, ↓reduceIte, Int.reduceAdd, Int.reduceEq, Int.reduceLE, Int.reduceLT, Int.reduceMul, Int.reduceNeg, Int.reducePow, Int.reduceSub, Int.reduceToNat, Nat.reduceAdd, Nat.reduceEqDiff, Nat.reduceLT, Nat.reduceLeDiff, Nat.reduceMul, reduceCtorEq]
    exact hK w1 f1
  have pl := putint_len h1 h2
  have ul := putuint_len hL (n := 100) (by omega)
  have ri := putInt_good h1 h2
  have ru := putUint_row (Big.val_bd hL).1
  simp (disch := omega) only [wu64, wu32, wu8, fdiv_nn, EO, ↓EP, EQ, EM, ↓reduceIte, Int.reduceAdd, Int.reduceEq, Int.reduceLE, Int.reduceLT, Int.reduceMul, Int.reduceNeg, Int.reducePow, Int.reduceSub, Int.reduceToNat, Nat.reduceAdd, Nat.reduceEqDiff, Nat.reduceLT, Nat.reduceLeDiff, Nat.reduceMul, reduceCtorEq, Code.c9]
  refine putint_vw h1 h2 _ fun v1 w1 g1 => ?_
  simp (disch := omega) only [wu64, wu32, wu8, fdiv_nn, EO, ↓EP, EQ, EM, ↓reduceIte, Int.reduceAdd, Int.reduceEq, Int.reduceLE, Int.reduceLT, Int.reduceMul, Int.reduceNeg, Int.reducePow, Int.reduceSub, Int.reduceToNat, Nat.reduceAdd, Nat.reduceEqDiff, Nat.reduceLT, Nat.reduceLeDiff, Nat.reduceMul, reduceCtorEq]
  refine int_vw g1.vw (ByteL.of ri.byt) (by omega) _ ?_
  simp only [pr2, int_there h1 h2]
  simp (disch := omega) only [wu64, wu32, wu8, fdiv_nn, EO, ↓EP, EQ, EM, ↓reduceIte, Int.reduceAdd, Int.reduceEq, Int.reduceLE, Int.reduceLT, Int.reduceMul, Int.reduceNeg, Int.reducePow, Int.reduceSub, Int.reduceToNat, Nat.reduceAdd, Nat.reduceEqDiff, Nat.reduceLT, Nat.reduceLeDiff, Nat.reduceMul, reduceCtorEq]
  refine putuint_vw (ha.nb g1.fr) hL (by omega) _ fun v2 w2 g2 => ?_
  have f2 := g1.fr.nb g2.fr
  simp (disch := omega) only [wu64, wu32, wu8, fdiv_nn, EO, ↓EP, EQ, EM, ↓reduceIte, Int.reduceAdd, Int.reduceEq, Int.reduceLE, Int.reduceLT, Int.reduceMul, Int.reduceNeg, Int.reducePow, Int.reduceSub, Int.reduceToNat, Nat.reduceAdd, Nat.reduceEqDiff, Nat.reduceLT, Nat.reduceLeDiff, Nat.reduceMul, reduceCtorEq]
  refine uint_vw g2.vw (ByteL.of ru.1) (by omega) _ fun v3 w3 g3 => ?_
  rw [uint_there hL (by omega)] at g3 ⊢
  simp only [pr2]
  have f3 := f2.nb g3.fr
  simp (disch := omega) only [wu64, wu32, wu8, fdiv_nn, EO, ↓EP, EQ, EM, ↓reduceIte, Int.reduceAdd, Int.reduceEq, Int.reduceLE, Int.reduceLT, Int.reduceMul, Int.reduceNeg, Int.reducePow, Int.reduceSub, Int.reduceToNat, Nat.reduceAdd, Nat.reduceEqDiff, Nat.reduceLT, Nat.reduceLeDiff, Nat.reduceMul, reduceCtorEq]
  refine num_vw _ ?_
  simp (disch := omega) only [wu64, wu32, wu8, fdiv_nn, EO, ↓EP, EQ, EM, ↓reduceIte, Int.reduceAdd, Int.reduceEq, Int.reduceLE, Int.reduceLT, Int.reduceMul, Int.reduceNeg, Int.reducePow, Int.reduceSub, Int.reduceToNat, Nat.reduceAdd, Nat.reduceEqDiff, Nat.reduceLT, Nat.reduceLeDiff, Nat.reduceMul, reduceCtorEq]
  refine num_vw _ ?_
  simp (disch := omega) only [wu64, wu32, wu8, fdiv_nn, EO, ↓EP, EQ, EM, ↓reduceIte, Int.reduceAdd, Int.reduceEq, Int.reduceLE, Int.reduceLT, Int.reduceMul, Int.reduceNeg, Int.reducePow, Int.reduceSub, Int.reduceToNat, Nat.reduceAdd, Nat.reduceEqDiff, Nat.reduceLT, Nat.reduceLeDiff, Nat.reduceMul, reduceCtorEq]
  refine Spec.rtrim_vw (ha.nb f3) hL (by omega) _ fun v4 w4 g4 => ?_
  simp (disch := omega) only [wu64, wu32, wu8, fdiv_nn, EO, ↓EP, EQ, EM, ↓reduceIte, Int.reduceAdd, Int.reduceEq, Int.reduceLE, Int.reduceLT, Int.reduceMul, Int.reduceNeg, Int.reducePow, Int.reduceSub, Int.reduceToNat, Nat.reduceAdd, Nat.reduceEqDiff, Nat.reduceLT, Nat.reduceLeDiff, Nat.reduceMul, reduceCtorEq]
  have f4 := f3.nb g4.fr
  refine same_n (g3.vw.nb g4.fr) g4.vw (by have := limbs_le hL; show (Big.limbs (Big.val a)).length ≤ _; omega) _ fun w5 f5 => ?_
  have F5 := f4.nb f5
  simp (disch := omega) only [wu64, wu32, wu8, fdiv_nn, EO, ↓EP, EQ, EM, ↓reduceIte, Int.reduceAdd, Int.reduceEq, Int.reduceLE, Int.reduceLT, Int.reduceMul, Int.reduceNeg, Int.reducePow, Int.reduceSub, Int.reduceToNat, Nat.reduceAdd, Nat.reduceEqDiff, Nat.reduceLT, Nat.reduceLeDiff, Nat.reduceMul, reduceCtorEq, Bool.not_true]
  refine oid_vw (hd.nb F5) hb (hT.nb F5) (by omega) _ fun w6 f6 => ?_
  have F6 := F5.nb f6
  simp only [prs]
  have otl := oid_tlen d
  simp (disch := omega) only [wu64, wu32, wu8, fdiv_nn, EO, ↓EP, EQ, EM, ↓reduceIte, Int.reduceAdd, Int.reduceEq, Int.reduceLE, Int.reduceLT, Int.reduceMul, Int.reduceNeg, Int.reducePow, Int.reduceSub, Int.reduceToNat, Nat.reduceAdd, Nat.reduceEqDiff, Nat.reduceLT, Nat.reduceLeDiff, Nat.reduceMul, reduceCtorEq, W_joinT]
  refine join_cut (fun ρ' w' => Fr w w' nob) ?_ ?_
  · intro N1 hN1
    simp (disch := omega) only [wu64, wu32, wu8, fdiv_nn, EO, ↓EP, EQ, EM, ↓reduceIte, Int.reduceAdd, Int.reduceEq, Int.reduceLE, Int.reduceLT, Int.reduceMul, Int.reduceNeg, Int.reducePow, Int.reduceSub, Int.reduceToNat, Nat.reduceAdd, Nat.reduceEqDiff, Nat.reduceLT, Nat.reduceLeDiff, Nat.reduceMul, reduceCtorEq]
    refine num_vw _ ?_
    by_cases ho : (oidR d).2 = 0
    · have hp := oid_put (byteL_mem hb) ho
      simp (disch := omega) only [wu64, wu32, wu8, fdiv_nn, EO, ↓EP, EQ, EM, ↓reduceIte, Int.reduceAdd, Int.reduceEq, Int.reduceLE, Int.reduceLT, Int.reduceMul, Int.reduceNeg, Int.reducePow, Int.reduceSub, Int.reduceToNat, Nat.reduceAdd, Nat.reduceEqDiff, Nat.reduceLT, Nat.reduceLeDiff, Nat.reduceMul, reduceCtorEq, ho]
      refine putoid_vw (by omega) _ fun v7 w7 g7 => ?_
      rw [hp] at g7 ⊢
      simp only [pr2]
      have F7 := F6.nb g7.fr
      simp (disch := omega) only [wu64, wu32, wu8, fdiv_nn, EO, ↓EP, EQ, EM, ↓reduceIte, Int.reduceAdd, Int.reduceEq, Int.reduceLE, Int.reduceLT, Int.reduceMul, Int.reduceNeg, Int.reducePow, Int.reduceSub, Int.reduceToNat, Nat.reduceAdd, Nat.reduceEqDiff, Nat.reduceLT, Nat.reduceLeDiff, Nat.reduceMul, reduceCtorEq]
      refine num_vw _ ?_
      simp (disch := omega) only [wu64, wu32, wu8, fdiv_nn, EO, ↓EP, EQ, EM, ↓reduceIte, Int.reduceAdd, Int.reduceEq, Int.reduceLE, Int.reduceLT, Int.reduceMul, Int.reduceNeg, Int.reducePow, Int.reduceSub, Int.reduceToNat, Nat.reduceAdd, Nat.reduceEqDiff, Nat.reduceLT, Nat.reduceLeDiff, Nat.reduceMul, reduceCtorEq]
      refine same_bytes g7.vw (hd.nb F7) (by show d.length ≤ _; omega) _ fun w8 f8 => ?_
      simp (disch := omega) only [wu64, wu32, wu8, fdiv_nn, EO, ↓EP, EQ, EM, ↓reduceIte, Int.reduceAdd, Int.reduceEq, Int.reduceLE, Int.reduceLT, Int.reduceMul, Int.reduceNeg, Int.reducePow, Int.reduceSub, Int.reduceToNat, Nat.reduceAdd, Nat.reduceEqDiff, Nat.reduceLT, Nat.reduceLeDiff, Nat.reduceMul, reduceCtorEq, Bool.not_true]
      exact hN1 _ _ (F7.nb f8)
    · simp (disch := omega) only [wu64, wu32, wu8, fdiv_nn, EO, ↓EP, EQ, EM, ↓reduceIte, Int.reduceAdd, Int.reduceEq, Int.reduceLE, Int.reduceLT, Int.reduceMul, Int.reduceNeg, Int.reducePow, Int.reduceSub, Int.reduceToNat, Nat.reduceAdd, Nat.reduceEqDiff, Nat.reduceLT, Nat.reduceLeDiff, Nat.reduceMul, reduceCtorEq, ho]
      exact hN1 _ _ F6
  rintro ρ1 w7 hf1 F7
  have r2 : ρ1 2 = .slice A d.length c := by rw [hf1 2 rfl]; simp (disch := omega) only [wu64, wu32, wu8, fdiv_nn, EO, ↓EP, EQ, EM, ↓reduceIte, Int.reduceAdd, Int.reduceEq, Int.reduceLE, Int.reduceLT, Int.reduceMul, Int.reduceNeg, Int.reducePow, Int.reduceSub, Int.reduceToNat, Nat.reduceAdd, Nat.reduceEqDiff, Nat.reduceLT, Nat.reduceLeDiff, Nat.reduceMul, reduceCtorEq]
  clear hf1
  simp (disch := omega) only [wu64, wu32, wu8, fdiv_nn, EO, ↓EP, EQ, EM, ↓reduceIte, Int.reduceAdd, Int.reduceEq, Int.reduceLE, Int.reduceLT, Int.reduceMul, Int.reduceNeg, Int.reducePow, Int.reduceSub, Int.reduceToNat, Nat.reduceAdd, Nat.reduceEqDiff, Nat.reduceLT, Nat.reduceLeDiff, Nat.reduceMul, reduceCtorEq, r2]
  refine int_vw (hd.nb F7) hb hd63 _ ?_
  simp only [pr2]
  simp (disch := omega) only [wu64, wu32, wu8, fdiv_nn, EO, ↓EP, EQ, EM, ↓reduceIte, Int.reduceAdd, Int.reduceEq, Int.reduceLE, Int.reduceLT, Int.reduceMul, Int.reduceNeg, Int.reducePow, Int.reduceSub, Int.reduceToNat, Nat.reduceAdd, Nat.reduceEqDiff, Nat.reduceLT, Nat.reduceLeDiff, Nat.reduceMul, reduceCtorEq, r2]
  refine num_vw _ ?_
  by_cases hi : (intR d).2 = 0
  · have hp := int_back hb hi
    obtain ⟨i1, i2⟩ := int_rng (d := d)
    simp (disch := omega) only [wu64, wu32, wu8, fdiv_nn, EO, ↓EP, EQ, EM, ↓reduceIte, Int.reduceAdd, Int.reduceEq, Int.reduceLE, Int.reduceLT, Int.reduceMul, Int.reduceNeg, Int.reducePow, Int.reduceSub, Int.reduceToNat, Nat.reduceAdd, Nat.reduceEqDiff, Nat.reduceLT, Nat.reduceLeDiff, Nat.reduceMul, reduceCtorEq, hi, r2]
    refine putint_vw i1 i2 _ fun v8 w8 g8 => ?_
    rw [hp] at g8
    simp (disch := omega) only [wu64, wu32, wu8, fdiv_nn, EO, ↓EP, EQ, EM, ↓reduceIte, Int.reduceAdd, Int.reduceEq, Int.reduceLE, Int.reduceLT, Int.reduceMul, Int.reduceNeg, Int.reducePow, Int.reduceSub, Int.reduceToNat, Nat.reduceAdd, Nat.reduceEqDiff, Nat.reduceLT, Nat.reduceLeDiff, Nat.reduceMul, reduceCtorEq, r2]
    have F8 := F7.nb g8.fr
    refine same_bytes g8.vw (hd.nb F8) (by omega) _ fun w9 f9 => ?_
    simp (disch := omega) only [wu64, wu32, wu8, fdiv_nn, EO, ↓EP, EQ, EM, ↓reduceIte, Int.reduceAdd, Int.reduceEq, Int.reduceLE, Int.reduceLT, Int.reduceMul, Int.reduceNeg, Int.reducePow, Int.reduceSub, Int.reduceToNat, Nat.reduceAdd, Nat.reduceEqDiff, Nat.reduceLT, Nat.reduceLeDiff, Nat.reduceMul, reduceCtorEq]
    refine live_vw (hT.nb (F8.nb f9)) _ fun w10 f10 => ?_
    simp (disch := omega) only [wu64, wu32, wu8, fdiv_nn, EO, ↓EP, EQ, EM, ↓reduceIte, Int.reduceAdd, Int.reduceEq, Int.reduceLE, Int.reduceLT, Int.reduceMul, Int.reduceNeg, Int.reducePow, Int.reduceSub, Int.reduceToNat, Nat.reduceAdd, Nat.reduceEqDiff, Nat.reduceLT, Nat.reduceLeDiff, Nat.reduceMul, reduceCtorEq]
    exact hK w10 ((F8.nb f9).nb f10)
  · simp (disch := omega) only [wu64, wu32, wu8, fdiv_nn, EO, ↓EP, EQ, EM, ↓reduceIte, Int.reduceAdd, Int.reduceEq, Int.reduceLE, Int.reduceLT, Int.reduceMul, Int.reduceNeg, Int.reducePow, Int.reduceSub, Int.reduceToNat, Nat.reduceAdd, Nat.reduceEqDiff, Nat.reduceLT, Nat.reduceLeDiff, Nat.reduceMul, reduceCtorEq, hi]
    refine live_vw (hT.nb F7) _ fun w10 f10 => ?_
    simp (disch := omega) only [wu64, wu32, wu8, fdiv_nn, EO, ↓EP, EQ, EM, ↓reduceIte, Int.reduceAdd, Int.reduceEq, Int.reduceLE, Int.reduceLT, Int.reduceMul, Int.reduceNeg, Int.reducePow, Int.reduceSub, Int.reduceToNat, Nat.reduceAdd, Nat.reduceEqDiff, Nat.reduceLT, Nat.reduceLeDiff, Nat.reduceMul, reduceCtorEq]
    exact hK w10 (F7.nb f10)
end Go.Proofs.YtcflokckfjkdpaaDoor.Der
end
section
namespace Go.Proofs.YtcflokckfjkdpaaDoor
open Go
set_option maxRecDepth 100000
theorem stand_of {P : Program} {fn : Func} (h : (fn.params.toList.all fun t => !P.wantsStandIn t) = true) : ∀ (j : Nat) t, fn.params[j]? = some t → P.wantsStandIn t = false := by
  intro j t hj
  have := List.all_eq_true.1 h t (by rw [Array.mem_toList_iff]; exact Array.mem_of_getElem? hj)
  simpa using this
open Go Go.ChangeShapes Go.WideShapes Go.ChangeAt Go.WideMaps Go.WideElems Go.RowKit Go.Proofs.YtcflokckfjkdpaaDoor.Eng Go.Proofs.YtcflokckfjkdpaaDoor.Der
theorem derThere_walk {H : Type} {enc : TypeId × Value → H} (W : World) (base : Nat) (args : Array Value) (ds : List (DataW H)) (p : List MemPlace) (hA0 : DataW.TrodAll enc Tryd.prog W 0 (fun _ => true) true Tryd.f9.params.toList args.toList ds p)
    (hval : ∀ (j : Nat) t v, Tryd.f9.params[j]? = some t → args[j]? = some v → Value.okWide Tryd.prog W .any base t v) (hz : (DataW.weightsEach Tryd.prog Tryd.f9.params.toList ds).all (· ≤ reachBytes) = true) (hL : laidMetH Tryd.prog laid2 W) :
    callK Tryd.prog 9 args.toList W fun v w' => v = .bool true ∧ Fr W w' nob := by
  have hA : DataW.TrodAll enc Tryd.prog W 0 (fun _ => true) true Tryd.f9.params.toList args.toList ds p := hA0
  rw [Tryd.params9] at hA hval
  obtain ⟨v0, v1, v2, d0, d1, d2, p0, p1, p2, rfl, rfl, rfl, h0, h1, h2⟩ := trodAll_three hA
  obtain ⟨n, rfl, -, -, wn⟩ := open_int Tryd.underlying3 (hval 0 3 v0 rfl rfl) h0
  obtain ⟨Au, cu, lu, mu, rfl, hcu, h63u, -, hlu, hwu⟩ := Row.open_sl Tryd.underlying65 Tryd.underlying30 cells_u32 (hval 1 65 v1 rfl rfl) h1
  obtain ⟨Ab, cb, lb, mb, rfl, hcb, h63b, -, hlb, hwb⟩ := Row.open_sl Tryd.underlying22 Tryd.underlying5 cells_u8 (hval 2 22 v2 rfl rfl) h2
  have wn := Row.wf_i64 wn
  exact derthere_vw (of_laid hL) (Vw.of rfl hcb hlb) (byte_of hwb) (Vw.of rfl hcu hlu) (fun x hx => Row.wf_u32 (hwu x hx)) (by omega) (by omega) (by unfold maxLen at h63b; omega) _ fun w' f => ⟨rfl, f⟩
theorem derThere_lifted (os : Os) (started : os.Started) (H : Type) (enc : TypeId × Value → H) :
    ReturnsInHanded {} Tryd.checked os 9 .any (fun w args => (Rows.derThereSpec.pre enc Tryd.prog Tryd.f9 [] false w args ∧ laidMetH Tryd.prog laid2 w) ∧ sizedMet enc Tryd.prog Tryd.f9 (OpenSpec.ofChange Rows.derThereSpec) false w args)
      (Rows.derThereSpec.post enc Tryd.prog Tryd.f9 false true false false) :=
  Row.lifted_of (C := Tryd.checked) (X := fun w _ => laidMetH Tryd.prog laid2 w) (fun _ _ _ hh h => h.of_heap hh) own started (by kernel_rfl) Tryd.func9
    (ChangeSpec.witness_shaped (enc := enc) (C := Tryd.checked) (os := os) (X := fun w _ => laidMetH Tryd.prog laid2 w) false (World.laidAll Tryd.prog os laid2) #[.int .i64 0, .slice none 0 0, .slice none 0 0] 8 (World.laidAll_os _ _ _) (lay_shaped os) (by kernel_rfl) (by kernel_rfl) (by kernel_rfl) (door_met os _))
    laidOut (tb := 4) (by kernel_rfl) Tryd.underlying4 rfl (of_decide_eq_true (by kernel_rfl)) (fun ds h => by rw [show Tryd.f9.params.size = 3 by kernel_rfl] at h; obtain ⟨a, b, c, rfl⟩ := Row.len3 h; exact ⟨rfl, rfl, rfl⟩)
    (fun W base args ds p hA hval hz hL => derThere_walk (enc := enc) W base args ds p hA hval hz hL)
theorem derThere_holds : Rows.DerThereSaid :=
  OpenClaim.holds_of_wide 9 Tryd.f9 rfl rfl rfl rfl rfl rfl rfl ⟨rfl, rfl, rfl, rfl, rfl⟩ rfl rfl rfl rfl rfl (by kernel_rfl) Tryd.func9 (by kernel_rfl)
    (of_decide_eq_true (by kernel_rfl)) (by unfold Func.isWrapper; first | (rw [if_pos (by decide +kernel)]; kernel_rfl) | (rw [if_neg (by decide +kernel)]; exact ⟨rfl, rfl⟩))
    (fun os started H enc _ => derThere_lifted os started H enc)
theorem derThere_card : Rows.DerThereCardSaid :=
  Claim7.holds_tied_plain_at .later [] [.data, .data, .data, .data, .pinned] true (true, "b0f98ca86498d09aa392f72418b7d9cd37849646039c304add223e9f0f14904e") true
    derThere_holds (fun _ h => by cases h) (by kernel_rfl) (fun _ h => by cases h) derThere_row_tie rfl ⟨rfl, rfl⟩ (by kernel_rfl) rfl
    (fun f fn hf hfn => by
      obtain rfl : f = 9 := Option.some.inj ((show Tryd.prog.funcNamed "chirograph/chirographlaw04.DerThere" = some 9 by kernel_rfl).symm.trans hf) |>.symm
      obtain rfl : fn = Tryd.f9 := (Option.some.inj (Tryd.func9.symm.trans hfn)).symm
      exact ⟨by kernel_rfl, stand_of (by kernel_rfl)⟩)
    (by kernel_rfl)
end Go.Proofs.YtcflokckfjkdpaaDoor
end
